/- Part of the proof. -/
import Derived.Test.YthaliljaglldjaaGreatmBC
namespace Go.Proofs.YthaliljaglldjaaGreat
set_option maxHeartbeats 16000000
set_option maxRecDepth 20000
open Go.RowKit Go.ChangeMaps Go.MapKept
section
variable {w:World} {p:Nat} {M:WM} {F:Nat->Prop}
def xt (nm:String) (tp:TypeId) (f:Nat):Prop:=∀ (ρ:Operand->Value) (ty:TypeId) (pos:String) (af:Array Edge) (W:World) (b:Nat) (y:Value),ρ (.tmp 65)=.func (.methodOf 157 nm) #[] #[]->ρ (.tmp 66)=.iface tp (P_ b)->ρ (.tmp 67)=y ->
 (execOp ρ { dst:=some 68,op:=.call { callee:=.value (.tmp 65),args:=#[.tmp 66,.tmp 67],argTypes:=#[157,27] },type:=ty,pos:=pos,after:=af,guard:=none }).run Tryz.prog W=.ok (.enter f #[P_ b,y]) W
theorem mS {nm:String} {tp:TypeId} {f:Nat} (hd:xt nm tp f) {ops:Array Oper} {Q:Exit->Act->World->Prop} {rest:List Oper} {a:Act} {w:World} {b:Nat} {y:Value} {ty:TypeId} {pos:String} {af:Array Edge}
 (h65:a.eval (.tmp 65)=.func (.methodOf 157 nm) #[] #[]) (h66:a.eval (.tmp 66)=.iface tp (P_ b)) (h67:a.eval (.tmp 67)=y)
 (h:Calls Tryz.prog f #[P_ b,y] w fun
  | .returned v,w''=>wpList Tryz.prog ops Q rest (a.put (some 68) v) w''
  | .panicked chain,w''=>Q (.panic chain) a w''
  | .outgrown,_=>LetsOut Q) :
 wpList Tryz.prog ops Q ({ dst:=some 68,op:=.call { callee:=.value (.tmp 65),args:=#[.tmp 66,.tmp 67],argTypes:=#[157,27] },type:=ty,pos:=pos,after:=af,guard:=none } :: rest) a w:=by
 refine wpList_plain (hg:=rfl) (h:=fun K hK=>?_);unfold Oper.wp;rw [hd _ _ _ _ _ b y h65 h66 h67];refine Calls.mono h fun e w'' he=>?_
 cases e with
 | returned v=>exact hK _ _ he
 | panicked chain=>exact he
 | outgrown=>exact he
def ARow (a:Int) (mn:Nat) (nm:String):Prop:=(a = 1∧mn = 0∧nm = "postern/plain.get")∨(a = 2∧mn = 1∧nm = "postern/plain.put")∨(a = 4∧mn = 2∧nm = "postern/plain.take")∨(a = 8∧mn = 3∧nm = "postern/plain.give")
theorem ARow.place {a:Int} {mn:Nat} {nm:String} (h:ARow a mn nm) (w:World):Calls Tryz.prog 184 #[U a] w fun e w'=>e=.returned (.tuple #[J mn,J 0])/\Bl w w':=by
 rcases h with ⟨rfl,rfl,-⟩ | ⟨rfl,rfl,-⟩ | ⟨rfl,rfl,-⟩ | ⟨rfl,rfl,-⟩
 ·exact nN w
 ·exact ol w
 ·exact nF w
 ·exact mQ w
theorem ARow.at {a:Int} {mn:Nat} {nm:String} (h:ARow a mn nm):mn<4/\dx[mn]? = some (.func (.methodOf 157 nm) #[] #[]):=by
 rcases h with ⟨-,rfl,rfl⟩ | ⟨-,rfl,rfl⟩ | ⟨-,rfl,rfl⟩ | ⟨-,rfl,rfl⟩ <;> exact⟨by decide,rfl⟩
def cE (k a:Int) (tf:TypeId) (f:Nat):Prop:=∃ tp mn nm,jT k tp tf/\ARow a mn nm/\xt nm tp f
theorem yN:ARow 1 0 "postern/plain.get":=.inl ⟨rfl,rfl,rfl⟩
theorem yM:ARow 2 1 "postern/plain.put":=.inr (.inl ⟨rfl,rfl,rfl⟩)
theorem yL:ARow 4 2 "postern/plain.take":=.inr (.inr (.inl ⟨rfl,rfl,rfl⟩))
theorem yQ:ARow 8 3 "postern/plain.give":=.inr (.inr (.inr ⟨rfl,rfl,rfl⟩))
theorem um:cE 1 1 247 321:=⟨_,_,_,yS,yN,fun _ _ _ _ _ _ _ h1 h2 h3=>by simp only [execOp,resolve,h1,h2,h3,List.map_toArray,List.map_cons,List.map_nil];kernel_rfl⟩
theorem xO:cE 1 2 247 323:=⟨_,_,_,yS,yM,fun _ _ _ _ _ _ _ h1 h2 h3=>by simp only [execOp,resolve,h1,h2,h3,List.map_toArray,List.map_cons,List.map_nil];kernel_rfl⟩
theorem ym:cE 1 4 247 324:=⟨_,_,_,yS,yL,fun _ _ _ _ _ _ _ h1 h2 h3=>by simp only [execOp,resolve,h1,h2,h3,List.map_toArray,List.map_cons,List.map_nil];kernel_rfl⟩
theorem xo:cE 1 8 247 322:=⟨_,_,_,yS,yQ,fun _ _ _ _ _ _ _ h1 h2 h3=>by simp only [execOp,resolve,h1,h2,h3,List.map_toArray,List.map_cons,List.map_nil];kernel_rfl⟩
theorem sD:cE 2 1 165 326:=⟨_,_,_,yO,yN,fun _ _ _ _ _ _ _ h1 h2 h3=>by simp only [execOp,resolve,h1,h2,h3,List.map_toArray,List.map_cons,List.map_nil];kernel_rfl⟩
theorem yF:cE 2 2 165 328:=⟨_,_,_,yO,yM,fun _ _ _ _ _ _ _ h1 h2 h3=>by simp only [execOp,resolve,h1,h2,h3,List.map_toArray,List.map_cons,List.map_nil];kernel_rfl⟩
theorem yw:cE 2 4 165 324:=⟨_,_,_,yO,yL,fun _ _ _ _ _ _ _ h1 h2 h3=>by simp only [execOp,resolve,h1,h2,h3,List.map_toArray,List.map_cons,List.map_nil];kernel_rfl⟩
theorem xR:cE 2 8 165 327:=⟨_,_,_,yO,yQ,fun _ _ _ _ _ _ _ h1 h2 h3=>by simp only [execOp,resolve,h1,h2,h3,List.map_toArray,List.map_cons,List.map_nil];kernel_rfl⟩
theorem sU:cE 3 1 249 334:=⟨_,_,_,yP,yN,fun _ _ _ _ _ _ _ h1 h2 h3=>by simp only [execOp,resolve,h1,h2,h3,List.map_toArray,List.map_cons,List.map_nil];kernel_rfl⟩
theorem xe:cE 3 2 249 328:=⟨_,_,_,yP,yM,fun _ _ _ _ _ _ _ h1 h2 h3=>by simp only [execOp,resolve,h1,h2,h3,List.map_toArray,List.map_cons,List.map_nil];kernel_rfl⟩
theorem yx:cE 3 4 249 324:=⟨_,_,_,yP,yL,fun _ _ _ _ _ _ _ h1 h2 h3=>by simp only [execOp,resolve,h1,h2,h3,List.map_toArray,List.map_cons,List.map_nil];kernel_rfl⟩
theorem tj:cE 3 8 249 335:=⟨_,_,_,yP,yQ,fun _ _ _ _ _ _ _ h1 h2 h3=>by simp only [execOp,resolve,h1,h2,h3,List.map_toArray,List.map_cons,List.map_nil];kernel_rfl⟩
theorem yc:cE 4 1 167 330:=⟨_,_,_,yR,yN,fun _ _ _ _ _ _ _ h1 h2 h3=>by simp only [execOp,resolve,h1,h2,h3,List.map_toArray,List.map_cons,List.map_nil];kernel_rfl⟩
theorem xh:cE 4 2 167 328:=⟨_,_,_,yR,yM,fun _ _ _ _ _ _ _ h1 h2 h3=>by simp only [execOp,resolve,h1,h2,h3,List.map_toArray,List.map_cons,List.map_nil];kernel_rfl⟩
theorem AG:cE 4 4 167 332:=⟨_,_,_,yR,yL,fun _ _ _ _ _ _ _ h1 h2 h3=>by simp only [execOp,resolve,h1,h2,h3,List.map_toArray,List.map_cons,List.map_nil];kernel_rfl⟩
theorem xY:cE 4 8 167 331:=⟨_,_,_,yR,yQ,fun _ _ _ _ _ _ _ h1 h2 h3=>by simp only [execOp,resolve,h1,h2,h3,List.map_toArray,List.map_cons,List.map_nil];kernel_rfl⟩
theorem lQ:cE 10 1 169 333:=⟨_,_,_,pI,yN,fun _ _ _ _ _ _ _ h1 h2 h3=>by simp only [execOp,resolve,h1,h2,h3,List.map_toArray,List.map_cons,List.map_nil];kernel_rfl⟩
theorem vY:cE 10 2 169 328:=⟨_,_,_,pI,yM,fun _ _ _ _ _ _ _ h1 h2 h3=>by simp only [execOp,resolve,h1,h2,h3,List.map_toArray,List.map_cons,List.map_nil];kernel_rfl⟩
theorem uJ:cE 10 4 169 324:=⟨_,_,_,pI,yL,fun _ _ _ _ _ _ _ h1 h2 h3=>by simp only [execOp,resolve,h1,h2,h3,List.map_toArray,List.map_cons,List.map_nil];kernel_rfl⟩
theorem uZ:cE 10 8 169 322:=⟨_,_,_,pI,yQ,fun _ _ _ _ _ _ _ h1 h2 h3=>by simp only [execOp,resolve,h1,h2,h3,List.map_toArray,List.map_cons,List.map_nil];kernel_rfl⟩
theorem wB:cE 11 1 251 330:=⟨_,_,_,qZ,yN,fun _ _ _ _ _ _ _ h1 h2 h3=>by simp only [execOp,resolve,h1,h2,h3,List.map_toArray,List.map_cons,List.map_nil];kernel_rfl⟩
theorem vf:cE 11 2 251 328:=⟨_,_,_,qZ,yM,fun _ _ _ _ _ _ _ h1 h2 h3=>by simp only [execOp,resolve,h1,h2,h3,List.map_toArray,List.map_cons,List.map_nil];kernel_rfl⟩
theorem vG:cE 11 4 251 324:=⟨_,_,_,qZ,yL,fun _ _ _ _ _ _ _ h1 h2 h3=>by simp only [execOp,resolve,h1,h2,h3,List.map_toArray,List.map_cons,List.map_nil];kernel_rfl⟩
theorem wJ:cE 11 8 251 336:=⟨_,_,_,qZ,yQ,fun _ _ _ _ _ _ _ h1 h2 h3=>by simp only [execOp,resolve,h1,h2,h3,List.map_toArray,List.map_cons,List.map_nil];kernel_rfl⟩
attribute [local go_sem ↓] jW nR in
theorem yh {k a:Int} {tf f:Nat} (hrow:cE k a tf f) (hW:IsW w p M F) {r:Int} (hr:(Lit.int .i64 r).wf=true) {t:Th} (ht:M.at r=some t) (hf:Fair t) (hk:t.kind=k) {F1:Nat->Prop} {v:Val} {raw:Value} (hS:SlAt w F1 raw v.l) (hm:ay v=true) (hkn:∀ r ∈ aM v,(Lit.int .i64 r).wf=true/\(M.at r).isSome=true)
 {Post:World->Val->Value->Int->World->Prop} {Post':Val->Value->Int->World->Prop}
 (hP:∀ w0 v raw n w1 w2 y,w.heap.size≤y->y<w0.heap.size->Keeps (fun z=>z=y) w1 w2->Post w0 v raw n w1->Post' v raw n w2)
 (hM:∀ w0 w' b,Bl w w0->FoundB w0 p r t tf b w'->Calls Tryz.prog f #[P_ b,.agg (au v raw)] w' (fR w' F b (Post w0))) :
 Calls Tryz.prog 90 #[P_ p,J r,U a,.agg (au v raw)] w fun e w'=>∃ v' pv cv n,e=.returned (.tuple #[.agg (au v' (.slice pv v'.l.length cv)),J n])/\Keeps F w w'/\Post' v' (.slice pv v'.l.length cv) n w':=by
 obtain⟨pa,c,rfl⟩:=hS.form;have HW:Hid (IsW w p M F):=hW;have Ht:Hid (M.at r=some t/\Fair t/\t.kind=k):=⟨ht,hf,hk⟩;have HV:Hid (SlAt w F1 (.slice pa v.l.length c) v.l/\ay v=true/\(∀ r ∈ aM v,(Lit.int .i64 r).wf=true/\(M.at r).isSome=true)):=⟨hS,hm,hkn⟩;have HM:Hid _:=hM;obtain⟨tp,mn,nm,hfr,har,hdi⟩:=hrow;obtain⟨hm4,hnv⟩:=har.at;have HNv:Hid (dx[mn]? = some (.func (.methodOf 157 nm) #[] #[])/\xt nm tp f/\jT k tp tf):=⟨hnv,hdi,hfr⟩;have HPl:Hid _:=har.place;have hz0:(0:Int)≤(mn:Int):=by omega
 have hz4:(mn:Int)<4:=by omega
 have hz5:¬ (mn:Int) ≥ 4:=by omega
 clear hm4 hnv hdi hfr har;have HP:Hid _:=hP;have hmf:∀ (fn:Fn) (first cap:Array Value) (w:World),(Instr.makeFunc fn first cap).run Tryz.prog w=.ok (.func fn first cap) w:=fun _ _ _ _=>rfl;clear hW ht hf hk hS hm hkn hM hP;obtain⟨vk,vn,vstr,vl,vr⟩:=v;simp only [au]at HM ⊢
 obtain⟨w4,hst,HX⟩:∃ w4,(zs (P_ (w.heap.size+1+1)) (.agg dx)).run Tryz.prog (((w.alloc (.cells (V_ vk vn vstr (.slice pa vl.length c) vr) 27)).alloc (.cells O 27)).alloc (.cells #[.nilFunc,.nilFunc,.nilFunc,.nilFunc] 240))=.ok .skip w4 /\
  Hid (Bl w w4/\w4.heap[w.heap.size]? = some (.cells (V_ vk vn vstr (.slice pa vl.length c) vr) 27 (0,0))/\w4.heap[w.heap.size+1]? = some (.cells zV 27 (0,0))/\w4.heap[w.heap.size+2]? = some (.cells dx 240 (0,0))):=by
  have g3:=ai ((w.alloc (.cells (V_ vk vn vstr (.slice pa vl.length c) vr) 27)).alloc (.cells O 27)) (.cells #[.nilFunc,.nilFunc,.nilFunc,.nilFunc] 240);rw [World.size_alloc,World.size_alloc]at g3;refine⟨_,qp (c':=dx) g3 rfl rfl (by simp only [dx];simp;exact⟨rfl,rfl,rfl,rfl⟩),Below.setRow ((((br.alloc aH _).alloc (by simp) _).alloc (by simp;omega) _)) (by omega) _,?_,?_,ah g3⟩
  ·rw [aj _ _ _ _ (by omega)];exact aG _ _ (aL _ _ _)
  ·rw [aj _ _ _ _ (by omega)];exact aG _ _ (aK _ _ _)
 simp only [dx]at hst
 go_enter Tryz.func90,Tryz.ntmps90
 go_wp2_with fail
 refine(HPl.out _).mono ?_;rintro e w5 ⟨rfl,hb5⟩;have HB5:Hid (Bl w w5/\w5.heap[w.heap.size]? = some (.cells (V_ vk vn vstr (.slice pa vl.length c) vr) 27 (0,0))/\w5.heap[w.heap.size+1]? = some (.cells zV 27 (0,0))/\w5.heap[w.heap.size+2]? = some (.cells dx 240 (0,0))):=⟨HX.out.1.trans (hb5.mono HX.out.1.size),ae hb5 HX.out.2.1,ae hb5 HX.out.2.2.1,ae hb5 HX.out.2.2.2⟩;clear hb5 HX hst hmf;obtain⟨⟨a0,a1,a2,a3,a4⟩,-⟩:=ax HB5.out.2.1
 go_wp2_with fail
 refine(bT (HW.out.below HB5.out.1)).mono ?_;rintro e _ ⟨rfl,rfl⟩
 go_wp2_with fail
 have hmay:=dF (v:=⟨vk,vn,vstr,vl,vr⟩) (HV.out.1.on HB5.out.1);rw [HV.out.2.1]at hmay;refine hmay.mono ?_;rintro e w6 ⟨rfl,hb6⟩;have HB6:Hid (Bl w w6/\w6.heap[w.heap.size]? = some (.cells (V_ vk vn vstr (.slice pa vl.length c) vr) 27 (0,0))/\w6.heap[w.heap.size+1]? = some (.cells zV 27 (0,0))/\w6.heap[w.heap.size+2]? = some (.cells dx 240 (0,0))):=⟨HB5.out.1.trans (hb6.mono HB5.out.1.size),ae hb6 HB5.out.2.1,ae hb6 HB5.out.2.2.1,ae hb6 HB5.out.2.2.2⟩;clear hb6 hmay a0 a1 a2 a3 a4 HB5;obtain⟨⟨a0,a1,a2,a3,a4⟩,-⟩:=ax HB6.out.2.1
 go_wp2_with fail
 have hIs:=gN (HW.out.below HB6.out.1) hr;rw [Ht.out.1]at hIs;refine hIs.mono ?_;rintro e _ ⟨rfl,rfl⟩
 go_wp2_with fail
 refine(qI (HW.out.below HB6.out.1) ⟨vk,vn,vstr,vl,vr⟩ _ (HV.out.1.on HB6.out.1) HV.out.2.2).mono ?_;rintro e w7 ⟨rfl,hb7⟩;have HB7:Hid (Bl w w7/\w7.heap[w.heap.size]? = some (.cells (V_ vk vn vstr (.slice pa vl.length c) vr) 27 (0,0))/\w7.heap[w.heap.size+1]? = some (.cells zV 27 (0,0))/\w7.heap[w.heap.size+2]? = some (.cells dx 240 (0,0))):=⟨HB6.out.1.trans (hb7.mono HB6.out.1.size),ae hb7 HB6.out.2.1,ae hb7 HB6.out.2.2.1,ae hb7 HB6.out.2.2.2⟩;clear hb7 hIs a0 a1 a2 a3 a4 HB6
 go_wp2_with fail
 refine(ed HNv.out.2.2 (HW.out.below HB7.out.1) hr Ht.out.1 Ht.out.2.1 Ht.out.2.2).mono ?_;rintro e w8 ⟨b,rfl,hfd⟩;have hb8:Bl w7 w8:=by obtain⟨_,_,-,-,h,-⟩:=hfd;exact h
 have HB8:=(show Hid (Bl w w8.drew/\w8.drew.heap[w.heap.size+1]? = some (.cells zV 27 (0,0))/\b≠w.heap.size+1/\w.heap.size≤b/\w.heap.size+1<w7.heap.size)from⟨(HB7.out.1.trans (hb8.mono HB7.out.1.size)).drew,ae hb8 HB7.out.2.2.1,by
  obtain⟨_,_,-,h,-⟩:=hfd;have:=aw HB7.out.2.2.1;omega,by
  obtain⟨_,_,-,h,-⟩:=hfd;have:=HB7.out.1.size
  omega,aw HB7.out.2.2.1⟩)
 have hdb:=aX (ae hb8 HB7.out.2.2.2);have d0:w8.drew.cell? ⟨w.heap.size+1+1,mn,none⟩=some (.func (.methodOf 157 nm) #[] #[]):=by rw [ag hdb];exact HNv.out.1
 clear hdb;obtain⟨⟨a0,a1,a2,a3,a4⟩,-⟩:=ax (aX (ae hb8 HB7.out.2.1));have HC:Hid _:=HM.out w7 w8.drew b HB7.out.1 hfd.drew;clear hfd hb8 HB7 HM
 go_wp2_with fail
 refine cH 5 2 (by kernel_rfl) (by kernel_rfl) ?_;simp only [List.take_succ_cons,List.take_zero,List.drop_succ_cons,List.drop_zero]
 repeat still_step
 refine wpStill_nil ?_
 go_wp2_with (refine mS HNv.out.2.1 (b:=b) (y:=.agg (V_ vk vn vstr (.slice pa vl.length c) vr)) rfl rfl rfl ?_)
 refine Calls.mono HC.out ?_;rintro e w9 ⟨v',pv,cv,n',rfl,hk9,hp9⟩;have hlt:=HW.out.lt;have hz:=aw HB8.out.2.1
 have hg9:=(hk9.block _ hz (fun h=>by
  rcases h with h | h
  ·have:=hlt _ h;omega
  ·exact HB8.out.2.2.1 h.symm)).trans HB8.out.2.1
 obtain⟨vk',vn',vstr',vl',vr'⟩:=v';have hst:=az (c':=#[U vk',J vn',.string vstr',.slice pv vl'.length cv,J vr']) hg9 rfl rfl (by simp [go_sem]);have HZ:Hid _:=ah (c':=#[U vk',J vn',.string vstr',.slice pv vl'.length cv,J vr']) hg9
 have HE:Hid (Keeps F w (w9.setRow (w.heap.size+1) (V_ vk' vn' vstr' (.slice pv vl'.length cv) vr'))/\Post' ⟨vk',vn',vstr',vl',vr'⟩ (.slice pv vl'.length cv) n' (w9.setRow (w.heap.size+1) (V_ vk' vn' vstr' (.slice pv vl'.length cv) vr'))):=by
  have hks:Keeps (fun z=>z=w.heap.size+1) w9 (w9.setRow (w.heap.size+1) (V_ vk' vn' vstr' (.slice pv vl'.length cv) vr')):=⟨rfl,rfl,rfl,by simp [World.setRow],fun k _ hk=>aj _ _ _ _ hk⟩;refine⟨?_,HP.out _ _ _ _ _ _ (w.heap.size+1) (by omega) HB8.out.2.2.2.2 hks hp9⟩
  have h1:Keeps F w w9:=((Keeps.of_below (S:=fun _=>False) HB8.out.1).trans hk9 (T:=fun y=>F y\/y=b) (fun _ _ h=>h.elim) (fun _ _ h=>h)).mono fun x hx h=>by
   rcases h with h | h
   ·exact h
   ·have:=HB8.out.2.2.2.1;omega
  exact h1.trans hks (fun _ _ h=>h) (fun x hx h=>by omega)
 clear hk9 hp9 hg9 hz hlt HC HP d0 a0 a1 a2 a3 a4;simp only [au]
 go_wp2_with fail
 change wpStill _ _ _ _ _ _
 repeat still_step
 refine wpStill_nil ?_
 go_wp2_with fail
 obtain⟨⟨r0,r1,r2,r3,r4⟩,-⟩:=ax HZ.out;refine bodyPost_ret (v:=.tuple #[.agg (V_ vk' vn' vstr' (.slice pv vl'.length cv) vr'),J n']) (by simp [results,Tryz.results90,go_sem,r0,r1,r2,r3,r4]) rfl ⟨⟨vk',vn',vstr',vl',vr'⟩,pv,cv,n',rfl,HE.out.1,HE.out.2⟩
end
section
variable {w:World} {p:Nat} {M:WM} {F:Nat->Prop}
theorem LaidB.start {w w1 w':World} {r:Int} {x:Th} {b:Nat} (h:LaidB w1 p M F r x b w') (hb:Bl w w1):LaidB w p M F r x b w':=by
 obtain⟨vl',vals',F',l0,l1,l2,l3⟩:=h;exact⟨vl',vals',F',l0,l1,Below.keeps hb l2,fun y hy=>(l3 y hy).imp id fun h=>Nat.le_trans hb.size h⟩
theorem gj:bX 9 27 3 bp:=fun _ _ _ _ _=>rfl
theorem ie:ff 27 4 11 bZ:=fun _ _ _ _ _=>rfl
def GivePost (w:World) (p:Nat) (M:WM) (F:Nat->Prop) (r k h:Int) (vs:List Val) (v:Val) (b:Nat) (e:Ending) (w':World):Prop :=
 (ay (aJ (vs ++ [v]))=true/\e=.returned (.tuple #[.agg zV,J 0])/\∃ vals',LaidB w p M F r (qT k h (vs ++ [v]) vals') b w') \/
 (ay (aJ (vs ++ [v]))=false/\e=.returned (.tuple #[.agg zV,J 8])/\Bl w w')
attribute [local go_sem ↓] gj ie in
theorem uY (hW:IsW w p M F) {r:Int} (hr:(Lit.int .i64 r).wf=true) {k h:Int} (hk:k=2\/k=4) {vs:List Val} {vals0 vals:Value} (ht:M.at r=some (qT k h vs vals0)) {b:Nat} (hb:w.heap[b]? = some (.cells (bj p r (qT k h vs vals)) 167 (0,0))) (hbF:¬ F b)
 (hh:be M h=true) {FA FB:Nat->Prop} (hS:SlAt w FA vals vs) (hFA:∀ y,FA y->y≠b) (hcap:dQ vals) (hheld:∀ r ∈ bk (qT k h vs vals0),(Lit.int .i64 r).wf=true/\(M.at r).isSome=true) (hmay:∀ x ∈ vs,ay x=true) (hlen:vs.length≤1024)
 {v:Val} {raw:Value} (hv:SlAt w FB raw v.l) (hFB:∀ y,FB y->y≠b) (hm:ay v=true) (hkn:∀ r ∈ aM v,(Lit.int .i64 r).wf=true/\(M.at r).isSome=true) :
 Calls Tryz.prog 331 #[P_ b,.agg (au v raw)] w (GivePost w p M F r k h vs v b):=by
 obtain⟨pv,cv,rfl⟩:=hv.form;have hlt:=aw hb;have HbF:Hid (∀ y,F y->y<w.heap.size):=hW.lt
 have HC:Hid (∀ w1,Bl w w1->Calls Tryz.prog 320 #[P_ b,.agg (au v (.slice pv v.l.length cv))] w1 (GivePost w1 p M F r k h vs v b)):=fun w1 hb1 =>
  ow (hW.below hb1) hr hk ht ((hb1.block b hlt).trans hb) hbF hh (hS.on hb1) hFA hcap hheld hmay hlen (hv.on hb1) hFB hm hkn
 clear hW hr hk ht hb hh hS hFA hcap hheld hmay hlen hv hFB hm hkn;obtain⟨vk,vn,vstr,vl,vr⟩:=v;simp only [au]at HC ⊢;generalize hnv:vl.length=nv at *
 have HX:Hid (Bl w ((w.alloc (.cells (V_ vk vn vstr (.slice pv nv cv) vr) 27)).alloc (.cells O 27)).drew /\
  ((w.alloc (.cells (V_ vk vn vstr (.slice pv nv cv) vr) 27)).alloc (.cells O 27)).drew.heap[w.heap.size]? = some (.cells (V_ vk vn vstr (.slice pv nv cv) vr) 27 (0,0)) /\
  ((w.alloc (.cells (V_ vk vn vstr (.slice pv nv cv) vr) 27)).alloc (.cells O 27)).drew.heap[w.heap.size+1]? = some (.cells zV 27 (0,0))) :=
  ⟨((br.alloc aH _).alloc (by simp) _).drew,aL _ _ _,aK _ _ _⟩
 go_enter Tryz.func331,Tryz.ntmps331
 go_upto_region 1 with fail
 refine cH 4 2 (by kernel_rfl) (by kernel_rfl) ?_;revert HX;generalize World.drew _=wa;intro HX;have hldv:=aI HX.out.2.1 rfl;simp only [List.take_succ_cons,List.take_zero,List.drop_succ_cons,List.drop_zero]
 repeat still_step
 refine wpStill_nil ?_
 go_wp2_with fail
 refine Calls.mono (HC.out wa HX.out.1) ?_;rintro e w9 h9
 have HR:Hid (w9.heap[w.heap.size+1]? = some (.cells zV 27 (0,0))/\∀ e',GivePost wa p M F r k h vs ⟨vk,vn,vstr,vl,vr⟩ b e' w9->GivePost w p M F r k h vs ⟨vk,vn,vstr,vl,vr⟩ b e' w9):=by
  refine⟨?_,fun e' h=>?_⟩
  ·rcases h9 with ⟨-,-,vals',vl',vals2,F',l0,l1,l2,l3⟩ | ⟨-,-,l2⟩
   ·exact(l2.block _ (aw HX.out.2.2) (fun e=>by rcases e with e | e;have:=HbF.out _ e;omega;omega)).trans HX.out.2.2
   ·exact ae l2 HX.out.2.2
  ·rcases h with ⟨l0,l1,vals',l2⟩ | ⟨l0,l1,l2⟩
   ·exact .inl ⟨l0,l1,vals',l2.start HX.out.1⟩
   ·exact .inr ⟨l0,l1,HX.out.1.trans (l2.mono HX.out.1.size)⟩
 obtain⟨⟨r0,r1,r2,r3,r4⟩,-⟩:=ax HR.out.1;have hst:(bZ (P_ (w.heap.size+1)) (.agg zV)).run Tryz.prog w9=.ok .skip w9:=bf HR.out.1 rfl (by simp [zV]) (by simp [zV,go_sem]) (by simp [zV]);have H9:Hid (GivePost wa p M F r k h vs ⟨vk,vn,vstr,vl,vr⟩ b e w9):=h9;clear HC HX hldv
 rcases h9 with ⟨-,rfl,-⟩ | ⟨-,rfl,-⟩
 ·go_wp2_with fail
  change wpStill _ _ _ _ _ _
  repeat still_step
  refine wpStill_nil ?_
  go_wp2_with fail
  exact bodyPost_ret (v:=.tuple #[.agg zV,J 0]) (by simp [results,Tryz.results331,go_sem,r0,r1,r2,r3,r4,zV]) rfl (HR.out.2 _ H9.out)
 ·go_wp2_with fail
  change wpStill _ _ _ _ _ _
  repeat still_step
  refine wpStill_nil ?_
  go_wp2_with fail
  exact bodyPost_ret (v:=.tuple #[.agg zV,J 8]) (by simp [results,Tryz.results331,go_sem,r0,r1,r2,r3,r4,zV]) rfl (HR.out.2 _ H9.out)
attribute [local go_sem ↓] gj ie in
theorem wz (hW:IsW w p M F) {r:Int} (hr:(Lit.int .i64 r).wf=true) {k h:Int} (hk:k=2\/k=4) {vs:List Val} {vals0 vals:Value} (ht:M.at r=some (qT k h vs vals0)) {b:Nat} (hb:w.heap[b]? = some (.cells (bj p r (qT k h vs vals)) 165 (0,0))) (hbF:¬ F b)
 (hh:be M h=true) {FA FB:Nat->Prop} (hS:SlAt w FA vals vs) (hFA:∀ y,FA y->y≠b) (hcap:dQ vals) (hheld:∀ r ∈ bk (qT k h vs vals0),(Lit.int .i64 r).wf=true/\(M.at r).isSome=true) (hmay:∀ x ∈ vs,ay x=true) (hlen:vs.length≤1024)
 {v:Val} {raw:Value} (hv:SlAt w FB raw v.l) (hFB:∀ y,FB y->y≠b) (hm:ay v=true) (hkn:∀ r ∈ aM v,(Lit.int .i64 r).wf=true/\(M.at r).isSome=true) :
 Calls Tryz.prog 327 #[P_ b,.agg (au v raw)] w (GivePost w p M F r k h vs v b):=by
 obtain⟨pv,cv,rfl⟩:=hv.form;have hlt:=aw hb;have HbF:Hid (∀ y,F y->y<w.heap.size):=hW.lt
 have HC:Hid (∀ w1,Bl w w1->Calls Tryz.prog 320 #[P_ b,.agg (au v (.slice pv v.l.length cv))] w1 (GivePost w1 p M F r k h vs v b)):=fun w1 hb1 =>
  ow (hW.below hb1) hr hk ht ((hb1.block b hlt).trans hb) hbF hh (hS.on hb1) hFA hcap hheld hmay hlen (hv.on hb1) hFB hm hkn
 clear hW hr hk ht hb hh hS hFA hcap hheld hmay hlen hv hFB hm hkn;obtain⟨vk,vn,vstr,vl,vr⟩:=v;simp only [au]at HC ⊢;generalize hnv:vl.length=nv at *
 have HX:Hid (Bl w ((w.alloc (.cells (V_ vk vn vstr (.slice pv nv cv) vr) 27)).alloc (.cells O 27)).drew /\
  ((w.alloc (.cells (V_ vk vn vstr (.slice pv nv cv) vr) 27)).alloc (.cells O 27)).drew.heap[w.heap.size]? = some (.cells (V_ vk vn vstr (.slice pv nv cv) vr) 27 (0,0)) /\
  ((w.alloc (.cells (V_ vk vn vstr (.slice pv nv cv) vr) 27)).alloc (.cells O 27)).drew.heap[w.heap.size+1]? = some (.cells zV 27 (0,0))) :=
  ⟨((br.alloc aH _).alloc (by simp) _).drew,aL _ _ _,aK _ _ _⟩
 go_enter Tryz.func327,Tryz.ntmps327
 go_upto_region 1 with fail
 refine cH 4 2 (by kernel_rfl) (by kernel_rfl) ?_;revert HX;generalize World.drew _=wa;intro HX;have hldv:=aI HX.out.2.1 rfl;simp only [List.take_succ_cons,List.take_zero,List.drop_succ_cons,List.drop_zero]
 repeat still_step
 refine wpStill_nil ?_
 go_wp2_with fail
 refine Calls.mono (HC.out wa HX.out.1) ?_;rintro e w9 h9
 have HR:Hid (w9.heap[w.heap.size+1]? = some (.cells zV 27 (0,0))/\∀ e',GivePost wa p M F r k h vs ⟨vk,vn,vstr,vl,vr⟩ b e' w9->GivePost w p M F r k h vs ⟨vk,vn,vstr,vl,vr⟩ b e' w9):=by
  refine⟨?_,fun e' h=>?_⟩
  ·rcases h9 with ⟨-,-,vals',vl',vals2,F',l0,l1,l2,l3⟩ | ⟨-,-,l2⟩
   ·exact(l2.block _ (aw HX.out.2.2) (fun e=>by rcases e with e | e;have:=HbF.out _ e;omega;omega)).trans HX.out.2.2
   ·exact ae l2 HX.out.2.2
  ·rcases h with ⟨l0,l1,vals',l2⟩ | ⟨l0,l1,l2⟩
   ·exact .inl ⟨l0,l1,vals',l2.start HX.out.1⟩
   ·exact .inr ⟨l0,l1,HX.out.1.trans (l2.mono HX.out.1.size)⟩
 obtain⟨⟨r0,r1,r2,r3,r4⟩,-⟩:=ax HR.out.1;have hst:(bZ (P_ (w.heap.size+1)) (.agg zV)).run Tryz.prog w9=.ok .skip w9:=bf HR.out.1 rfl (by simp [zV]) (by simp [zV,go_sem]) (by simp [zV]);have H9:Hid (GivePost wa p M F r k h vs ⟨vk,vn,vstr,vl,vr⟩ b e w9):=h9;clear HC HX hldv
 rcases h9 with ⟨-,rfl,-⟩ | ⟨-,rfl,-⟩
 ·go_wp2_with fail
  change wpStill _ _ _ _ _ _
  repeat still_step
  refine wpStill_nil ?_
  go_wp2_with fail
  exact bodyPost_ret (v:=.tuple #[.agg zV,J 0]) (by simp [results,Tryz.results327,go_sem,r0,r1,r2,r3,r4,zV]) rfl (HR.out.2 _ H9.out)
 ·go_wp2_with fail
  change wpStill _ _ _ _ _ _
  repeat still_step
  refine wpStill_nil ?_
  go_wp2_with fail
  exact bodyPost_ret (v:=.tuple #[.agg zV,J 8]) (by simp [results,Tryz.results327,go_sem,r0,r1,r2,r3,r4,zV]) rfl (HR.out.2 _ H9.out)
end
section
variable {w:World} {p:Nat} {M:WM} {F:Nat->Prop}
theorem AB (w:World) (b:Nat) (m:Int) (hm:m<0):Calls Tryz.prog 332 #[P_ b,.agg (V_ 1 m ⟨#[]⟩ (S_) 0)] w fun e w'=>e=.returned (.tuple #[.agg zV,J 2])/\Below w.heap.size w w':=by
 go_enter Tryz.func332,Tryz.ntmps332
 go_wp2
 go_returns
 exact⟨rfl,by go_grown⟩
theorem oh {b:Nat} {r:Int} {t:Th} {ps:Option Addr} {ns cs:Nat} (hb:w.heap[b]? = some (.cells (bj p r t) 167 (0,0))) (hv:t.vals=.slice ps ns cs) (m:Int) (hm:(ns:Int)<m):Calls Tryz.prog 332 #[P_ b,.agg (V_ 1 m ⟨#[]⟩ (S_) 0)] w fun e w'=>e=.returned (.tuple #[.agg zV,J 81])/\Below w.heap.size w w':=by
 have c9:w.cell? ⟨b,9,none⟩=some (.slice ps ns cs):=by rw [ag hb,← hv];rfl
 have h1:¬ m<0:=by omega
 have h2:m > (ns:Int):=hm;have hlt:=aw hb
 go_enter Tryz.func332,Tryz.ntmps332
 go_wp2_with fail
 go_region
 go_wp2_with fail
 go_returns
 exact⟨rfl,by go_grown⟩
theorem iq (w:World) (ps:Option Addr) (n cs k:Nat) (h:k≤cs):(Instr.sliceAt 24 (.slice ps n cs) none (some (.int .i64 k)) none).run Tryz.prog w=.ok (.slice ps k cs) w:=by
 simp [go_sem,h]
theorem jA (w:World) (ps:Option Addr) (n cs k:Nat) (h:k≤n):(Instr.sliceAt 24 (.slice ps n cs) (some (.int .i64 k)) none none).run Tryz.prog w=.ok (.slice (if cs=k then ps else ps.map (·.add (k * 5))) (n - k) (cs - k)) w:=by
 simp [go_sem,h]
theorem IsW.of_setRow (h:IsW w p M F) {b:Nat} (hb:∀ y,F y->y≠b) (c:Array Value):IsW (w.setRow b c) p M F :=
 h.keeps (S:=fun y=>y=b) ⟨rfl,rfl,rfl,by simp [World.setRow],fun k _ hk=>aj _ _ _ _ hk⟩ fun y hy e=>hb y hy e
def lj (w:World) (p:Nat) (M:WM) (F:Nat->Prop) (r h:Int) (vs:List Val) (k b:Nat) (e:Ending) (w':World):Prop :=
 ∃ raw' vals' vl' vals2 F',e=.returned (.tuple #[.agg (au (aJ (vs.take k)) raw'),J 0])/\SlT w' (fun y=>w.heap.size≤y/\¬ F' y) raw' (vs.take k)/\((qT 4 h (vs.drop k) vals').v.l = []->vl'=.slice none 0 0)/\IsW w' p (M.set r { qT 4 h (vs.drop k) vals' with vl:=vl',vals:=vals2 }) F'/\Keeps (fun y=>F y\/y=b) w w'/\∀ y,F' y->F y\/w.heap.size≤y
theorem nE:ff 27 4 75 bZ:=fun _ _ _ _ _=>rfl
attribute [local go_sem ↓] nE in
theorem uL (hW:IsW w p M F) {r:Int} (hr:(Lit.int .i64 r).wf=true) {h:Int} {vs:List Val} {vals0 vals:Value} (ht:M.at r=some (qT 4 h vs vals0)) {b:Nat} (hb:w.heap[b]? = some (.cells (bj p r (qT 4 h vs vals)) 167 (0,0))) (hbF:¬ F b)
 (hh:be M h=true) {FA:Nat->Prop} (hS:SlAt w FA vals vs) (hFA:∀ y,FA y->y≠b/\¬ F y) (hcap:dQ vals) (hheld:∀ r ∈ bk (qT 4 h vs vals0),(Lit.int .i64 r).wf=true/\(M.at r).isSome=true) (hmay:ay (aJ vs)=true) (hmays:∀ x ∈ vs,ay x=true) {k:Nat} (hk:k≤vs.length) :
 Calls Tryz.prog 332 #[P_ b,.agg (V_ 1 (k:Int) ⟨#[]⟩ (S_) 0)] w (lj w p M F r h vs k b):=by
 obtain⟨ps,cs,hvals⟩:=hS.form;subst hvals;have hlt:=aw hb
 have hncs:vs.length≤cs:=by
  obtain⟨a,n,c,e,h1,h2⟩:=hcap
  cases e
  exact h1
 have hl511:=dg hmay;have HbF:Hid (∀ y,F y->y<w.heap.size):=hW.lt;obtain⟨pd,nd,cd,hd⟩:∃ pd nd cd,(Value.slice (if cs=k then ps else ps.map (·.add (k * 5))) (vs.length - k) (cs - k))=.slice pd nd cd:=⟨_,_,_,rfl⟩
 have hSf:SlAt w FA (.slice ps k cs) (vs.take k):=hS.front hk cs ⟨by omega,hS.room.2⟩
 have hSd:SlAt w FA (.slice pd nd cd) (vs.drop k):=by
  have:=hS.back hk hncs
  rwa [hd]at this
 have hslf:=fun w:World=>iq w ps vs.length cs k (by omega);have hslb:=fun w:World=>jA w ps vs.length cs k hk;rw [hd]at hslb;have HP:Hid (IsW w p M F/\M.at r=some (qT 4 h vs vals0)/\be M h=true/\(∀ y,FA y->y≠b/\¬ F y)/\(∀ r ∈ bk (qT 4 h vs vals0),(Lit.int .i64 r).wf=true/\(M.at r).isSome=true)/\ay (aJ vs)=true/\(∀ x ∈ vs,ay x=true)/\SlAt w FA (.slice ps k cs) (vs.take k)/\SlAt w FA (.slice pd nd cd) (vs.drop k)/\vs.length≤511):=⟨hW,ht,hh,hFA,hheld,hmay,hmays,hSf,hSd,hl511⟩;have h1:¬ ((k:Int)<0):=by omega
 have h2:¬ ((k:Int) > (vs.length:Int)):=by omega
 have c9':w.cell? ⟨b,9,none⟩=some (.slice ps vs.length cs):=by rw [ag hb];rfl
 clear hW ht hh hFA hheld hmay hmays hSf hSd hS hcap hncs hd;have hk0:(0:Int)≤(k:Int):=by omega
 generalize hn:vs.length=n at *
 go_enter Tryz.func332,Tryz.ntmps332
 go_wp2_with fail
 go_region
 go_wp2_with fail
 have HX:Hid (Bl w ((w.alloc (.cells (V_ 1 (k:Int) ⟨#[]⟩ (S_) 0) 27)).alloc (.cells O 27)).drew/\((w.alloc (.cells (V_ 1 (k:Int) ⟨#[]⟩ (S_) 0) 27)).alloc (.cells O 27)).drew.heap[w.heap.size]? = some (.cells (V_ 1 (k:Int) ⟨#[]⟩ (S_) 0) 27 (0,0))/\((w.alloc (.cells (V_ 1 (k:Int) ⟨#[]⟩ (S_) 0) 27)).alloc (.cells O 27)).drew.heap[w.heap.size+1]? = some (.cells zV 27 (0,0))) :=
  ⟨((br.alloc aH _).alloc (by simp) _).drew,aL _ _ _,aK _ _ _⟩
 revert HX;generalize World.drew _=w2;intro HX;clear c9';have hb2:=(HX.out.1.block b hlt).trans hb;have c9:w2.cell? ⟨b,9,none⟩=some (.slice ps n cs):=by rw [ag hb2];rfl
 have f9:=av hb2 9;have d1:w2.cell? ⟨w.heap.size,1,none⟩=some (.int .i64 k):=by rw [ag HX.out.2.1];rfl
 go_still_tail 9,(by kernel_rfl)
 change wpList _ _ _ _ _ w2.drew
 go_wp2_with fail
 have HX3:Hid (Bl w w2.drew/\w2.drew.heap[w.heap.size]? = some (.cells (V_ 1 (k:Int) ⟨#[]⟩ (S_) 0) 27 (0,0))/\w2.drew.heap[w.heap.size+1]? = some (.cells zV 27 (0,0))):=⟨HX.out.1.drew,aX HX.out.2.1,aX HX.out.2.2⟩;clear hb2 c9 f9 d1 HX;revert HX3;generalize w2.drew=w3;intro HX;have hb2:=(HX.out.1.block b hlt).trans hb;have c9:w3.cell? ⟨b,9,none⟩=some (.slice ps n cs):=by rw [ag hb2];rfl
 have f9:=av hb2 9;have d1:w3.cell? ⟨w.heap.size,1,none⟩=some (.int .i64 k):=by rw [ag HX.out.2.1];rfl
 go_still_tail 14,(by kernel_rfl)
 change wpList _ _ _ _ _ w3.drew
 go_wp2_with fail
 have hb3:(w3.setCell ⟨b,9,none⟩ (.slice pd nd cd)).drew.heap[b]? = some (.cells (bj p r (qT 4 h (vs.drop k) (.slice pd nd cd))) 167 (0,0)):=aA hb2 9 (.slice pd nd cd);have hk3:Keeps (fun y=>y=b) w (w3.setCell ⟨b,9,none⟩ (.slice pd nd cd)).drew:=(Below.keeps HX.out.1 (Keeps.setCell (S:=fun y=>y=b) w3 ⟨b,9,none⟩ _ rfl)).drew;have hr3:(w3.setCell ⟨b,9,none⟩ (.slice pd nd cd)).drew.heap[w.heap.size+1]? = some (.cells zV 27 (0,0)):=eK HX.out.2.2 ⟨b,9,none⟩ _ (by simp;omega);have HS3:Hid _:=And.intro hb3 (And.intro hk3 hr3);clear hb3 hk3 hr3 hb2 c9 f9 d1 HX;revert HS3;generalize World.drew _=w4;intro HS3;have c0:w4.cell? ⟨b,0,none⟩=some (.pointer (some ⟨p,0,none⟩)):=by rw [ag HS3.out.1];rfl
 have c1:w4.cell? ⟨b,1,none⟩=some (.int .i64 r):=by rw [ag HS3.out.1];rfl
 have ldx:(dZ (R_ b 2)).run Tryz.prog w4.drew=.ok (.value (.agg (X_ 4 h 0 0 ⟨#[]⟩ (S_) 0 (.slice pd nd cd) 0 0 0 0 0 false))) w4.drew:=iH (aX HS3.out.1) (cs:=#[.int .u8 4,.int .i64 h,.int .u8 0,.int .i64 0,.string ⟨#[]⟩,.slice none 0 0,.int .i64 0,.slice pd nd cd,.int .i64 0,.int .i64 0,.int .i64 0,.int .i64 0,.int .u8 0,.bool false,.slice none 0 0,.slice none 0 0].toList) (by intro j x hj;exact fS (t:=qT 4 h (vs.drop k) (.slice pd nd cd)) hj) rfl;obtain⟨hW,ht,hh,hFA,hheld,hmay,hmays,hSf,hSd,hl511⟩:=HP.out;have hW4:IsW w4.drew p M F:=hW.keeps HS3.out.2.1.drew (fun y hy e=>hbF (e ▸ hy));have hSd4:SlAt w4.drew FA (.slice pd nd cd) (vs.drop k):=hSd.keeps HS3.out.2.1.drew (fun y e hy=>(hFA y hy).1 e);have hSf4:SlAt w4.drew FA (.slice ps k cs) (vs.take k):=hSf.keeps HS3.out.2.1.drew (fun y e hy=>(hFA y hy).1 e)
 have hsub:∀ r ∈ bk (qT 4 h (vs.drop k) (.slice pd nd cd)),(Lit.int .i64 r).wf=true/\(M.at r).isSome=true:=fun r hr=>hheld r (by
  simp only [bk,List.mem_append,List.mem_flatMap]at hr ⊢
  rcases hr with hr | ⟨x,hx,hr⟩
  ·exact .inl hr
  ·exact .inr ⟨x,List.mem_of_mem_drop hx,hr⟩)
 have HL:Hid (Calls Tryz.prog 107 #[P_ p,J r,.agg (X_ 4 h 0 0 ⟨#[]⟩ (S_) 0 (.slice pd nd cd) 0 0 0 0 0 false)] w4.drew fun e w'=>e=.returned (J 0)/\nb w4.drew p M F r (qT 4 h (vs.drop k) (.slice pd nd cd)) w'):=by
  refine xa hW4 hr ht rfl (x:=qT 4 h (vs.drop k) (.slice pd nd cd)) ⟨SlAt.nil _ _ _ _,hSd4,rfl,rfl⟩ ⟨(aZ 0 0 (.inl ⟨rfl,rfl⟩)).2,fun x hx=>hmays x (List.mem_of_mem_drop hx),by show (vs.drop k).length≤_;simp;omega⟩ rfl rfl rfl rfl rfl (fun r hr=>(hsub r hr).1) (by unfold cX;rw [List.all_eq_true];exact fun r hr=>(hsub r hr).2) ?_;intro w' hb';exact Az (hW4.below hb') hh uB (wU (hSd4.on hb') (by simp;omega) (ls (fun x hx=>hmays x (List.mem_of_mem_drop hx)) (da hmay k)))
 have HO:Hid (rD (vs.take k)=0/\(vs.take k).length=k/\SlAt w4.drew FA (.slice ps k cs) (vs.take k)/\∀ y,FA y->¬ F y):=⟨ls (fun x hx=>hmays x (List.mem_of_mem_take hx)) (ga hmay k),by simp;omega,hSf4,fun y hy=>(hFA y hy).2⟩;clear hW ht hh hFA hheld hmay hmays hSf hSd hW4 hSd4 hSf4 hsub
 go_still_tail 15,(by kernel_rfl)
 change wpList _ _ _ _ _ w4.drew
 go_wp2_with fail
 refine Calls.mono HL.out ?_;rintro e w5 ⟨rfl,hl⟩;have HLG:Hid (nb w4.drew p M F r (qT 4 h (vs.drop k) (.slice pd nd cd)) w5):=hl;have hk5:Keeps F w4.drew w5:=by obtain⟨_,_,_,_,_,l2,_⟩:=hl;exact l2
 have hs5:SlAt w5 FA (.slice ps k cs) (vs.take k):=HO.out.2.2.1.keeps hk5 (fun y hy hf=>HO.out.2.2.2 y hf hy);have hr5:=(hk5.block _ (aw (aX HS3.out.2.2)) (fun e=>by have:=HbF.out _ e;omega)).trans (aX HS3.out.2.2);have HS5:Hid (SlAt w5 FA (.slice ps k cs) (vs.take k)/\w5.heap[w.heap.size+1]? = some (.cells zV 27 (0,0))/\w4.drew.heap.size≤w5.heap.size):=⟨hs5,hr5,hk5.size⟩;clear hl hk5 hs5 hr5 c0 c1 ldx HL
 go_wp2_with fail
 refine(yX (vs.take k) (.slice ps k cs) HS5.out.1 (by have:=HO.out.2.1;omega)).mono ?_;rintro e w6 ⟨hb6,hof⟩
 obtain⟨raw',rfl,hs6⟩:∃ raw',e=.returned (.tuple #[.agg (au (aJ (vs.take k)) raw'),J 0])/\SlT w6 (fun b=>w5.heap.size≤b) raw' (vs.take k):=by
  rcases hof with ⟨-,h⟩ | ⟨h,-⟩
  ·exact h
  ·exact absurd HO.out.1 h
 obtain⟨pr,cr,hform⟩:=hs6.form;rw [HO.out.2.1]at hform;subst hform;have hg6:=ae hb6 HS5.out.2.1;have hst:=az (c':=#[U 3,J 0,T_,.slice pr k cr,J 0]) hg6 rfl rfl (by simp [go_sem]);have HZ:Hid _:=ah (c':=#[U 3,J 0,T_,.slice pr k cr,J 0]) hg6
 have HE:Hid (lj w p M F r h vs k b (.returned (.tuple #[.agg (au (aJ (vs.take k)) (.slice pr k cr)),J 0])) (w6.setRow (w.heap.size+1) (V_ 3 0 ⟨#[]⟩ (.slice pr k cr) 0))):=by
  have hz4:=aw HS3.out.2.2;have hz5:w.heap.size+1<w4.drew.heap.size:=hz4;have h45:=HS5.out.2.2;obtain⟨vl',vals',F',l0,l1,l2,l3⟩:=HLG.out
  have hF':∀ y,F' y->y≠w.heap.size+1:=fun y hy e=>by
   rcases l3 y hy with h | h
   ·have:=HbF.out y h;omega
   ·omega
  refine⟨.slice pr k cr,.slice pd nd cd,vl',vals',F',rfl,hs6.of_blocks (Lists.of fun y hy=>aj _ _ _ _ (by have:w5.heap.size≤y:=hy;omega)) (fun y hy=>⟨by have:w5.heap.size≤y:=hy;omega,fun e=>by have:=l1.lt y e;have:w5.heap.size≤y:=hy;omega⟩),l0,(l1.below hb6).of_setRow (fun y hy=>hF' y hy) _,?_,fun y hy=>(l3 y hy).imp id fun h=>by omega⟩;have k1:Keeps (fun y=>F y\/y=b) w w5:=(HS3.out.2.1.drew).trans l2 (fun _ _ h=>.inr h) (fun _ _ h=>.inl h);have k2:Keeps (fun y=>F y\/y=b) w w6:=k1.then_below hb6;exact⟨k2.os,k2.tape,k2.output,by simpa [World.setRow]using k2.size,fun y hy hn=>(aj _ _ _ _ (by omega)).trans (k2.block y hy hn)⟩
 have Hof:Hid _:=hof;clear hb6 hs6 hg6 HS5 HLG HS3 hof;simp only [au,aJ]
 go_wp2_with fail
 obtain⟨⟨r0,r1,r2,r3,r4⟩,-⟩:=ax HZ.out;refine bodyPost_ret (v:=.tuple #[.agg (V_ 3 0 ⟨#[]⟩ (.slice pr k cr) 0),J 0]) ?_ rfl ?_
 ·simp [results,Tryz.results332,go_sem,r0,r1,r2,r3,r4]
 ·exact HE.out
end
section
variable {w:World} {p:Nat} {M:WM} {F:Nat->Prop}
def Acts (w:World) (p:Nat) (F:Nat->Prop) (N:WM) (w':World):Prop:=Keeps F w w'/\∃ F',IsW w' p N F'/\∀ y,F' y->F y\/w.heap.size≤y
abbrev nilV:Val:=⟨0,0,⟨#[]⟩,[],0⟩
abbrev cj (n:Int):Val:=⟨1,n,⟨#[]⟩,[],0⟩
def ActPost (w:World) (p:Nat) (F:Nat->Prop) (X:Val->Int->WM->Prop) (e:Ending) (w':World):Prop :=
 ∃ v pv cv n N F',e=.returned (.tuple #[.agg (au v (.slice pv v.l.length cv)),J n])/\X v n N/\Keeps F w w'/\IsW w' p N F'/\(∀ y,F' y->F y\/w.heap.size≤y)/\SlT w' (fun y=>w.heap.size≤y/\¬ F' y) (.slice pv v.l.length cv) v.l
def ij (p:Nat) (F:Nat->Prop) (X:Val->Int->WM->Prop) (w0:World) (v:Val) (raw:Value) (n:Int) (w1:World):Prop :=
 ∃ N F',X v n N/\IsW w1 p N F'/\(∀ y,F' y->F y\/w0.heap.size≤y)/\SlT w1 (fun y=>w0.heap.size≤y/\¬ F' y) raw v.l
theorem pj (hF:∀ y,F y->y<w.heap.size) {X:Val->Int->WM->Prop}:∀ w0 v raw n w1 w2 y,w.heap.size≤y->y<w0.heap.size->Keeps (fun z=>z=y) w1 w2->ij p F X w0 v raw n w1->ij p F X w v raw n w2:=by
 rintro w0 v raw n w1 w2 y h1 h2 hk ⟨N,F',hX,hW,hF',hS⟩;refine⟨N,F',hX,hW.keeps hk fun z hz e=>?_,fun z hz=>(hF' z hz).imp id fun h=>by omega,?_⟩
 ·subst e
  rcases hF' _ hz with h | h
  ·have:=hF _ h;omega
  ·omega
 ·have key:SlT w2 (fun y=>w0.heap.size≤y/\¬ F' y) raw v.l:=(hS.monoLt (F':=fun z=>(w0.heap.size≤z/\¬ F' z)/\z<w1.heap.size) fun b h h'=>⟨h,h'⟩).of_blocks (Lists.of fun b hb=>hk.block b hb.2 (by have:=hb.1.1;omega)) (fun b hb=>hb.1);exact key.mono fun b hb=>⟨by have:=hb.1;omega,hb.2⟩
theorem zk {X:Val->Int->WM->Prop} {e:Ending} {w':World} (h:∃ v' pv cv n,e=.returned (.tuple #[.agg (au v' (.slice pv v'.l.length cv)),J n])/\Keeps F w w'/\ij p F X w v' (.slice pv v'.l.length cv) n w'):ActPost w p F X e w':=by
 obtain⟨v',pv,cv,n,he,hk,N,F',hX,hW,hF,hS⟩:=h;exact⟨v',pv,cv,n,N,F',he,hX,hk,hW,hF,hS⟩
theorem ActPost.acts {X:Val->Int->WM->Prop} {e:Ending} {w':World} (h:ActPost w p F X e w'):∃ v pv cv n N,e=.returned (.tuple #[.agg (au v (.slice pv v.l.length cv)),J n])/\X v n N/\Acts w p F N w':=by
 obtain⟨v',pv,cv,n,N,F',he,hX,hk,hW,hF,-⟩:=h;exact⟨v',pv,cv,n,N,he,hX,hk,F',hW,hF⟩
theorem bU {k a:Int} {tf f:Nat} (hrow:cE k a tf f) (hW:IsW w p M F) {r:Int} (hr:(Lit.int .i64 r).wf=true) {t:Th} (ht:M.at r=some t) (hf:Fair t) (hk:t.kind=k) {F1:Nat->Prop} {v:Val} {raw:Value} (hS:SlAt w F1 raw v.l) (hm:ay v=true) (hkn:∀ r ∈ aM v,(Lit.int .i64 r).wf=true/\(M.at r).isSome=true) {X:Val->Int->WM->Prop}
 (hM:∀ w0 w' b,Bl w w0->FoundB w0 p r t tf b w'->Calls Tryz.prog f #[P_ b,.agg (au v raw)] w' (fR w' F b (ij p F X w0))) :
 Calls Tryz.prog 90 #[P_ p,J r,U a,.agg (au v raw)] w (ActPost w p F X) :=
 (yh hrow hW hr ht hf hk hS hm hkn (Post:=ij p F X) (Post':=fun v' raw n' w2=>ij p F X w v' raw n' w2) (pj hW.lt) hM).mono fun _ _ h=>zk h
def xc (M:WM) (r h n m:Int) (v:Val) (c:Int) (N:WM):Prop :=
 v=nilV/\((m<0/\c=2/\N=M)\/(0≤m/\9007199254740992 - n<m/\c=8/\N=M)\/(0≤m/\n+m≤9007199254740992/\c=0/\N=M.set r (lt 3 h 0 0 (n+m) 0 0 0 0 false)))
theorem ik {r k hm n:Int} {ty:TypeId} {b:Nat} {w0 w':World} (h:FoundB w0 p r (lt k hm 0 0 n 0 0 0 0 false) ty b w'):w'.heap[b]? = some (.cells (bj p r (lt k hm 0 0 n 0 0 0 0 false)) ty (0,0))/\w0.heap.size≤b/\Bl w0 w':=by
 obtain⟨vl',vals',h1,h2,h3,-,h5,h6,-⟩:=h;rw [h5 rfl,h6 rfl]at h1;exact⟨h1,h2,h3⟩
theorem pS (k h n:Int):Fair (lt k h 0 0 n 0 0 0 0 false):=⟨(aZ 0 0 (.inl ⟨rfl,rfl⟩)).2,fun x hx=>(by cases hx),Nat.zero_le _⟩
theorem wi (hW:IsW w p M F) {r:Int} (hr:(Lit.int .i64 r).wf=true) {h n:Int} (ht:M.at r=some (lt 3 h 0 0 n 0 0 0 0 false)) (hh:be M h=true) (hn:0≤n/\n≤9007199254740992) (m:Int) :
 Calls Tryz.prog 90 #[P_ p,J r,U 8,.agg (au (cj m) (S_))] w (ActPost w p F (xc M r h n m)):=by
 have hv:=aZ 1 m (.inr rfl);refine bU tj hW hr ht (pS 3 h n) rfl (v:=cj m) (SlAt.nil w F none 0) hv.2 (fun r hr=>by rw [hv.1]at hr;cases hr) ?_;intro w0 w' b hb0 hfd;obtain⟨hb,hbw,hbel⟩:=ik hfd;have hW':IsW w' p M F:=hW.below (hb0.trans (hbel.mono hb0.size));have hbF:¬ F b:=fun e=>by have:=hW.lt b e;have:=hb0.size;omega
 by_cases h1:m<0
 ·exact(oI w' b m h1).mono fun e w'' ⟨he,hb''⟩=>⟨nilV,none,0,2,he,Keeps.of_below hb'',M,F,⟨rfl,.inl ⟨h1,rfl,rfl⟩⟩,hW'.below hb'',fun _ h=>.inl h,SlT.nil _ _ _ _⟩
 by_cases h2:9007199254740992 - n<m
 ·exact(pQ hb hn h2).mono fun e w'' ⟨he,hb''⟩=>⟨nilV,none,0,8,he,Keeps.of_below hb'',M,F,⟨rfl,.inr (.inl ⟨by omega,h2,rfl,rfl⟩)⟩,hW'.below hb'',fun _ h=>.inl h,SlT.nil _ _ _ _⟩
 ·refine(sV (m:=m) hW' hr ht hb hbF hh hn.1 (by omega) (by omega)).mono fun e w'' ⟨he,F',l1,l2,l3⟩=>⟨nilV,none,0,0,he,l2,_,F',⟨rfl,.inr (.inr ⟨by omega,by omega,rfl,rfl⟩)⟩,l1,fun y hy=>(l3 y hy).imp id fun h=>Nat.le_trans hbel.size h,SlT.nil _ _ _ _⟩
theorem uO (hW:IsW w p M F) {r:Int} (hr:(Lit.int .i64 r).wf=true) {h n:Int} (ht:M.at r=some (lt 3 h 0 0 n 0 0 0 0 false)) :
 Calls Tryz.prog 90 #[P_ p,J r,U 1,.agg (au nilV (S_))] w (ActPost w p F (fun v c N=>v=cj n/\c=0/\N=M)):=by
 have hv:=aZ 0 0 (.inl ⟨rfl,rfl⟩);refine bU sU hW hr ht (pS 3 h n) rfl (v:=nilV) (SlAt.nil w F none 0) hv.2 (fun r hr=>by rw [hv.1]at hr;cases hr) ?_;intro w0 w' b hb0 hfd;obtain⟨hb,hbw,hbel⟩:=ik hfd;have hW':IsW w' p M F:=hW.below (hb0.trans (hbel.mono hb0.size));exact(wl hb).mono fun e w'' ⟨he,hb''⟩=>⟨cj n,none,0,0,he,Keeps.of_below hb'',M,F,⟨rfl,rfl,rfl⟩,hW'.below hb'',fun _ h=>.inl h,SlT.nil _ _ _ _⟩
end
end Go.Proofs.YthaliljaglldjaaGreat
