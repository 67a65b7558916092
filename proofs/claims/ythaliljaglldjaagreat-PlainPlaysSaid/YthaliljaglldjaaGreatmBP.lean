/- Part of the proof. -/
import Derived.Test.YthaliljaglldjaaGreatmBO
namespace Go.Proofs.YthaliljaglldjaaGreat
set_option maxHeartbeats 16000000
set_option maxRecDepth 20000
open Go.RowKit Go.ChangeMaps Go.MapKept
section
theorem fC {w w':World} {q:Nat} {N:WM} {G:Nat->Prop} {h:Int} {e:Ending} (hm:dM w q N G h e w'):∃ r a,e=.returned (.tuple #[J r,J a]):=by
 rcases hm with ⟨-,rfl,-⟩ | ⟨-,-,rfl,-⟩ | ⟨-,-,rfl,-⟩ <;> exact⟨_,_,rfl⟩
theorem mO {w w':World} {q:Nat} {N:WM} {G:Nat->Prop} {h:Int} {e:Ending} (hm:dM w q N G h e w'):Keeps G w w':=by
 rcases hm with ⟨-,-,h⟩ | ⟨-,-,-,h⟩ | ⟨-,-,-,_,-,h,-⟩
 ·exact Keeps.of_below h
 ·exact Keeps.of_below h
 ·exact h
theorem iZ:bX 17 27 16 bp:=fun _ _ _ _ _=>rfl
theorem jo:bX 22 27 21 bp:=fun _ _ _ _ _=>rfl
theorem iX:bX 82 27 12 bp:=fun _ _ _ _ _=>rfl
theorem jq:bX 95 27 7 bp:=fun _ _ _ _ _=>rfl
theorem jF:bX 97 27 96 bp:=fun _ _ _ _ _=>rfl
theorem iz:bX 101 27 7 bp:=fun _ _ _ _ _=>rfl
theorem jh:ff 27 7 19 bZ:=fun _ _ _ _ _=>rfl
theorem iB:ff 27 12 22 bZ:=fun _ _ _ _ _=>rfl
theorem gC:ff 27 12 26 bZ:=fun _ _ _ _ _=>rfl
attribute [local go_sem ↓] iZ jo iX jq jF iz jh iB gC in
theorem uh {w:World} {p q:Nat} {M N:WM} {F G F1:Nat->Prop} (hB:Both w p q M N F G) (hl:M.last+2≤100000) (d h on ab:Int) (v:Val) (raw:Value) (hS:SlAt w F1 raw v.l) (hF1:∀ b,F1 b->¬ F b/\¬ G b) (hwf:v.wf) (hroom:cp v=true) (hF0:∀ b,F1 b->b<w.heap.size) :
 Calls Tryz.prog 16 #[P_ p,P_ q,.agg (aU d 10 h on ab v raw)] w (dt w p q M N F G):=by
 obtain⟨pa,c,rfl⟩:=hS.form;have hFl:∀ b,F b\/G b->b<w.heap.size:=fun b hb=>hb.elim (hB.W.lt b) (hB.R.lt b);have HB:Hid _:=hB;have HA:Hid (M.last+2≤100000/\(∀ b,F1 b->¬ F b/\¬ G b)/\v.wf/\∀ b,F b\/G b->b<w.heap.size):=⟨hl,hF1,hwf,hFl⟩;have H1:Hid (Bl w (w.alloc (.cells (aU d 10 h on ab v (.slice pa v.l.length c)) 49))/\(w.alloc (.cells (aU d 10 h on ab v (.slice pa v.l.length c)) 49)).heap[w.heap.size]? = some (.cells (aU d 10 h on ab v (.slice pa v.l.length c)) 49 (0,0))/\(w.alloc (.cells (aU d 10 h on ab v (.slice pa v.l.length c)) 49)).heap.size=w.heap.size+1):=⟨(Below.refl _ w).alloc aH _,ai _ _,by simp⟩;have HS:Hid (SlAt w F1 (.slice pa v.l.length c) v.l):=hS;have HRm:Hid (cp v=true):=hroom;have HF1:Hid (∀ b,F1 b->b<w.heap.size):=hF0;clear hB hl hF1 hwf hFl hS hroom hF0;have e5:aU d 10 h on ab v (.slice pa v.l.length c)=#[.int .i64 d,.int .u8 10,.int .i64 h,.int .i64 on,.int .u8 ab,.int .u8 v.kind,.int .i64 v.n,.string v.s,.slice pa v.l.length c,.int .i64 v.r]:=rfl;rw [e5];clear e5
 go_enter Tryz.func16,Tryz.ntmps16
 go_upto_region 1 with fail
 revert H1;simp only [aU];generalize w.alloc _=w1;intro H1;have hld1:=bH (d:=d) (k:=10) (h:=h) (on:=on) (ab:=ab) H1.out.2.1
 go_wp2_with fail
 refine(gE v (.slice pa v.l.length c) (HS.out.on H1.out.1)).mono ?_;rintro e w2 ⟨raw',rfl,⟨pr,nr,cr,rfl⟩,hb2,hq2⟩;rw [HRm.out];obtain⟨hsl,hsp,-⟩:=hq2 HRm.out
 have H2:Hid (Bl w w2/\w2.heap[w.heap.size]? = some (.cells (aU d 10 h on ab v (.slice pa v.l.length c)) 49 (0,0))/\SlAt w2 (fun b=>w.heap.size+1≤b/\b<w2.heap.size) (.slice pr nr cr) v.l/\Sp w2 (fun b=>w.heap.size+1≤b/\b<w2.heap.size) 42 (.slice pr nr cr)/\w.heap.size<w2.heap.size) :=
  ⟨H1.out.1.trans (hb2.mono H1.out.1.size),ae hb2 H1.out.2.1,(SlAt.lt hsl).mono fun b hb=>⟨by have:=H1.out.2.2;omega,hb.2⟩,(Sp.lt hsp).mono fun b hb=>⟨by have:=H1.out.2.2;omega,hb.2⟩,by have:=H1.out.2.2;have:=hb2.size;omega⟩
 clear hsl hsp hq2 hb2 hld1 H1 HRm
 have H3:Hid (∀ w3,w3=(w2.alloc (.cells zV 27)).setRow w2.heap.size (au v (.slice pr nr cr))->Bl w w3/\Bl w2 w3/\w3.heap[w2.heap.size]? = some (.cells (au v (.slice pr nr cr)) 27 (0,0))/\w3.heap.size=w2.heap.size+1):=fun w3 e=>by
  subst e;have hb:Bl w2 ((w2.alloc (.cells zV 27)).setRow w2.heap.size (au v (.slice pr nr cr))):=Below.setRow ((Below.refl _ w2).alloc aH _) aH _;exact⟨H2.out.1.trans (hb.mono H2.out.1.size),hb,ah (ai _ _),by simp [World.setRow]⟩
 have hst7:=az (c':=au v (.slice pr nr cr)) (ai w2 (.cells zV 27)) rfl rfl (by simp [go_sem,au]);simp only [au,zV]at hst7 H3 ⊢
 go_upto_region 4 with fail
 clear hst7;revert H3;generalize hw3:World.setRow _ _ _=w3;intro H3;have H3:Hid (Bl w w3/\Bl w2 w3/\w3.heap[w2.heap.size]? = some (.cells (au v (.slice pr nr cr)) 27 (0,0))/\w3.heap.size=w2.heap.size+1):=H3.out w3 rfl;clear hw3;have hld3:=bH (d:=d) (k:=10) (h:=h) (on:=on) (ab:=ab) (ae H3.out.2.1 H2.out.2.1);have hst12:=az (c':=au v (.slice pa v.l.length c)) (ai w3 (.cells zV 27)) rfl rfl (by simp [go_sem,au])
 have H4a:Hid (∀ w4a,w4a=(w3.alloc (.cells zV 27)).setRow w3.heap.size (au v (.slice pa v.l.length c))->Bl w w4a/\MdW w.heap.size w2.heap.size d 10 h on ab v v (.slice pa v.l.length c) (.slice pr nr cr) (.slice pa v.l.length c) F1 w4a/\w2.heap.size≤w4a.heap.size):=fun w4a e=>by
  subst e;have hb:Bl w3 ((w3.alloc (.cells zV 27)).setRow w3.heap.size (au v (.slice pa v.l.length c))):=Below.setRow ((Below.refl _ w3).alloc aH _) aH _;have hb2:=H3.out.2.1.trans (hb.mono H3.out.2.1.size);refine⟨H3.out.1.trans (hb.mono H3.out.1.size),⟨H2.out.2.2.2.2,ae hb2 H2.out.2.1,ae hb H3.out.2.2.1,?_,H2.out.2.2.1.on hb2,H2.out.2.2.2.1.on hb2,HS.out.on (H2.out.1.trans (hb2.mono H2.out.1.size)),HS.out.on (H2.out.1.trans (hb2.mono H2.out.1.size))⟩,hb2.size⟩;rw [<- H3.out.2.2.2];exact ah (ai _ _)
 simp only [au,zV]at hst12 H4a hld3 ⊢
 go_upto_region 5 with fail
 clear hst12 hld3;revert H4a;generalize hw4:World.setRow _ _ _=w4a;intro H4a;have H4a:Hid (Bl w w4a/\MdW w.heap.size w2.heap.size d 10 h on ab v v (.slice pa v.l.length c) (.slice pr nr cr) (.slice pa v.l.length c) F1 w4a/\w2.heap.size≤w4a.heap.size):=H4a.out w4a rfl;have hsz:=H3.out.2.2.2;rw [hsz];clear hw4 H2 H3 HS hsz;generalize w2.heap.size=n7 at *;have b5:=H4a.out.2.1.b5;have k1:w4a.cell? ⟨w.heap.size,1,none⟩=some (.int .u8 10):=by rw [ag b5];rfl
 have hst12b:=az (c':=zV) H4a.out.2.1.b12 rfl rfl (by simp [go_sem,zV])
 have H5:=(show Hid (∀ w4,w4=w4a.setRow (n7+1) zV->Bl w w4/\MdW w.heap.size n7 d 10 h on ab v ⟨0,0,⟨#[]⟩,[],0⟩ (.slice pa v.l.length c) (.slice pr nr cr) (S_) F1 w4/\n7≤w4.heap.size)from fun w4 e=>by
  obtain⟨h1,h2⟩:=H4a.out.2.1.zero HF1.out e
  exact⟨H4a.out.1.trans h2,h1,Nat.le_trans H4a.out.2.2 h2.size⟩)
 clear b5;simp only [zV]at hst12b H5
 go_upto_region 7 with fail
 clear hst12b k1;revert H5;generalize hw4:World.setRow _ _ _=w4;intro H5;have H4:Hid (Bl w w4/\MdW w.heap.size n7 d 10 h on ab v ⟨0,0,⟨#[]⟩,[],0⟩ (.slice pa v.l.length c) (.slice pr nr cr) (S_) F1 w4/\n7≤w4.heap.size):=H5.out w4 rfl;clear hw4 H5;have HB4:Hid (Both w4 p q M N F G):=HB.out.below H4.out.1;have hd:=H4.out.2.1;have hM:=HB4.out.W.ok
 have hAdd:∀ r u,(M.add (du h)).at r=some u->u.kind=11->u.tgt≠M.last+1:=fun r u hu hk=>by
  rw [WM.add_at hM]at hu;split at hu
  ·cases hu
   exact absurd (show (10:Int)=11 from hk) (by decide)
  ·have:=HB4.out.kp r u hu hk;omega
 have HC:Hid ((mayE M h ⟨0,0,⟨#[]⟩,[],0⟩≠0->Calls Tryz.prog 86 #[P_ p,J h] w4 fun e w'=>e=.returned (.tuple #[J 0,J 0,J (mayE M h ⟨0,0,⟨#[]⟩,[],0⟩)])/\Bl w4 w') /\
  (mayE M h ⟨0,0,⟨#[]⟩,[],0⟩=0->¬ M.made.getD h.toNat 0+2≤512->Calls Tryz.prog 86 #[P_ p,J h] w4 fun e w'=>e=.returned (.tuple #[J 0,J 0,J 8])/\Bl w4 w') /\
  (mayE M h ⟨0,0,⟨#[]⟩,[],0⟩=0->M.made.getD h.toNat 0+2≤512->Calls Tryz.prog 86 #[P_ p,J h] w4 (wP w4 p M F h))):=by
  have hrng:∀ h,0≤M.made.getD h 0/\M.made.getD h 0≤512:=fun h=>by
   rw [List.getD_eq_getElem?_getD]
   cases hg:M.made[h]? with
   | none=>exact⟨Int.le_refl _,by decide⟩
   | some y=>exact hM.mades _ y hg
  refine⟨fun h0=>pF HB4.out.W h0,fun h0 hr=>mB HB4.out.W (bo h0).1 hr (hrng _).2,fun h0 hr=>?_⟩;have hh:=(bo h0).1;refine ra HB4.out.W (by have:=HA.out.1;omega) hM.last.1 hh hr (hrng _).1 (WM.add_at_new hM _) rfl ?_ ?_ fun q u hu _ hk=>hAdd q u hu hk
  ·show (if (10:Int)=14 then M.made else M.made.set h.toNat (M.made.getD h.toNat 0+1)).length=_
   rw [if_neg (by decide),List.length_set]
  ·show (if (10:Int)=14 then M.made else M.made.set h.toNat (M.made.getD h.toNat 0+1)).getD h.toNat 0=_
   rw [if_neg (by decide)];have:h.toNat<M.made.length:=by omega
   simp [List.getD_eq_getElem?_getD,this]
 have HM8:Hid (∀ w',Keeps F w4 w'->Calls Tryz.prog 87 #[P_ q,U 10,J h,.agg O] w' (dM w' q N G h)):=fun w' hk=>by
  have hR':=HB4.out.R.keeps hk fun b h1 h2=>HB4.out.ap b h2 h1;have hg:=HB4.out.good (by have:=HA.out.1;omega);have hal:=HB4.out.al;have hlen:=HB4.out.lenM;have h1:=hal.things.1;refine wK hR' hg (by have:=HA.out.1;omega) (by rw [hal.last];have:=HA.out.1;omega) ?_ fun x hx=>?_
  ·show (N.things ++ [(N.last+1,du h)]).lookup (N.last+1)=_;rw [dq]
   have h0:M.at (N.last+1)=none:=by
    cases hz:M.at (N.last+1)with
    | none=>rfl
    | some u =>
      have:=(hM.at_range hz).2;rw [hal.last]at this;omega
   have h2:N.things.lookup (N.last+1)=none:=(bO hal.things (N.last+1)).1 h0;rw [h2];simp
  ·rcases List.mem_append.1 (show x ∈ N.things ++ [(N.last+1,du h)]from hx)with hx | hx
   ·obtain⟨y,hy,e1,vl,vals,e2⟩:=hal.things.mem' hx;have hr:=hM.range y hy;refine⟨by omega,fun hk=>?_⟩;rw [e2]at hk ⊢;have:=HB4.out.kp y.1 y.2 (hM.at_of_mem hy) hk;rw [hal.last];show y.2.tgt≠_;omega
   ·rw [List.mem_singleton.1 hx];exact⟨by have:=hg.last;show N.last+1≠0;omega,fun hk=>absurd (show (10:Int)=11 from hk) (by decide)⟩
 clear hAdd hM;have hE:mayE N h ⟨0,0,⟨#[]⟩,[],0⟩=mayE M h ⟨0,0,⟨#[]⟩,[],0⟩:=HB.out.al.mayE h ⟨0,0,⟨#[]⟩,[],0⟩;have hMd:N.made=M.made:=HB.out.al.made;have hLs:N.last=M.last:=HB.out.al.last;have HE:Hid (mayE N h ⟨0,0,⟨#[]⟩,[],0⟩=mayE M h ⟨0,0,⟨#[]⟩,[],0⟩/\N.made=M.made/\N.last=M.last):=⟨hE,hMd,hLs⟩;clear hE hMd hLs hd;have b5:=H4.out.2.1.b5;have b7:=H4.out.2.1.b7;have k1:w4.cell? ⟨w.heap.size,1,none⟩=some (.int .u8 10):=by rw [ag b5];rfl
 have k2:w4.cell? ⟨w.heap.size,2,none⟩=some (.int .i64 h):=by rw [ag b5];rfl
 have hl7:=aI b7 rfl;clear b5 b7;simp only [au]at HC HM8 hl7 ⊢
 go_wp2_with fail
 have HP:Hid (∀ (R:Ending->World->Prop),(∀ r5 k5 e5 w5,Keeps F w4 w5->(∀ w6 r6 e6,dM w5 q N G h (.returned (.tuple #[J r6,J e6])) w6->r6=r5/\e6=e5/\Md2 w4 p q M N F G w6)->(∀ e6 w6,dM w5 q N G h e6 w6->∃ r a,e6=.returned (.tuple #[J r,J a]))->((e5≠0/\k5=0)\/(e5=0/\k5=r5+1/\r5≤1000000/\0≤r5))->R (.returned (.tuple #[J r5,J k5,J e5])) w5)->Calls Tryz.prog 86 #[P_ p,J h] w4 R):=fun R hR=>by
  by_cases h0:mayE M h ⟨0,0,⟨#[]⟩,[],0⟩=0
  ·by_cases hr:M.made.getD h.toNat 0+2≤512
   ·refine(HC.out.2.2 h0 (by omega)).mono ?_;rintro e w5 ⟨rfl,F',hW,hg⟩;refine hR _ _ _ w5 hg.1 (fun w6 r6 e6 h8=>?_) (fun e6 w6 h8=>fC h8) (.inr ⟨rfl,rfl,by have:=HA.out.1;omega,by have:=HB.out.W.ok.last.1;omega⟩)
    rcases h8 with ⟨h8,-⟩ | ⟨-,h8,-⟩ | ⟨-,-,h8,G',h9,h10,h11⟩
    ·exact absurd (HE.out.1.trans h0) h8
    ·rw [HE.out.2.1]at h8;exact absurd hr h8
    ·rw [HE.out.2.2]at h8 h9;obtain⟨e1,e2⟩:=cz h8;refine⟨e1,e2,Md2.two HB4.out hW hg h9 h10 h11 (fun t ht=>?_) (AF (lq (bo h0).1) HB4.out.W.ok)⟩
     rcases ht with rfl | rfl
     ·exact⟨by rw [bS];simp [go_sem],⟨bV,fun x hx=>(by cases hx),Nat.zero_le _⟩,⟨cG,fA⟩,fun hk=>absurd (show (10:Int)=11 from hk) (by decide)⟩
     ·exact⟨by rw [bS];simp [go_sem],⟨bV,fun x hx=>(by cases hx),Nat.zero_le _⟩,⟨cG,fA⟩,fun _=>by show M.last+1≤M.last+1+1;omega⟩
   ·refine(HC.out.2.1 h0 (by omega)).mono ?_;rintro e w5 ⟨rfl,hb⟩;refine hR _ _ _ w5 (Keeps.of_below hb) (fun w6 r6 e6 h8=>?_) (fun e6 w6 h8=>fC h8) (.inl ⟨by decide,rfl⟩)
    rcases h8 with ⟨h8,-⟩ | ⟨-,-,h8,hb6⟩ | ⟨-,h8,-⟩
    ·exact absurd (HE.out.1.trans h0) h8
    ·obtain⟨e1,e2⟩:=cz h8;exact⟨e1,e2,Md2.no HB4.out hb hb6⟩
    ·rw [HE.out.2.1]at h8;exact absurd h8 hr
  ·refine(HC.out.1 (by first | exact h0 | simpa using h0)).mono ?_;rintro e w5 ⟨rfl,hb⟩;refine hR _ _ _ w5 (Keeps.of_below hb) (fun w6 r6 e6 h8=>?_) (fun e6 w6 h8=>fC h8) (.inl ⟨h0,rfl⟩)
   rcases h8 with ⟨-,h8,hb6⟩ | ⟨h8,-⟩ | ⟨h8,-⟩
   ·rw [HE.out.1]at h8;obtain⟨e1,e2⟩:=cz h8;exact⟨e1,e2,Md2.no HB4.out hb hb6⟩
   ·exact absurd (HE.out.1.symm.trans h8) h0
   ·exact absurd (HE.out.1.symm.trans h8) h0
 refine HP.out _ fun r5 kp5 e5 w5 hk5 hm5 hf5 hz5=>?_;have H5:Hid (Keeps F w4 w5/\(∀ w6 r6 e6,dM w5 q N G h (.returned (.tuple #[J r6,J e6])) w6->r6=r5/\e6=e5/\Md2 w4 p q M N F G w6)/\∀ e6 w6,dM w5 q N G h e6 w6->∃ r a,e6=.returned (.tuple #[J r,J a])):=⟨hk5,hm5,hf5⟩;have HZ5:Hid ((e5≠0/\kp5=0)\/(e5=0/\kp5=r5+1/\r5≤1000000/\0≤r5)):=hz5;clear hz5;have HX5:Hid _:=H4.out.2.1.keeps hk5 (fun b hb=>HA.out.2.2.2 b (.inl hb)) (fun b h1 h2=>(HA.out.2.1 b h2).1 h1);have b5:=HX5.out.b5;have b12:=HX5.out.b12;clear k1 k2 hl7 hk5 hm5 hf5 HP HC;have k1:w5.cell? ⟨w.heap.size,1,none⟩=some (.int .u8 10):=by rw [ag b5];rfl
 have k2:w5.cell? ⟨w.heap.size,2,none⟩=some (.int .i64 h):=by rw [ag b5];rfl
 have hl12:=aI b12 rfl;clear b5 b12;simp only [au]at hl12
 go_wp2_with fail
 refine(HM8.out w5 H5.out.1).mono ?_;intro e6 w6 h8;obtain⟨r6,a6,rfl⟩:=H5.out.2.2 e6 w6 h8;have hk6:Keeps G w5 w6:=mO h8;obtain⟨rfl,rfl,hMd⟩:=H5.out.2.1 w6 r6 a6 h8;have H6:Hid (Md2 w4 p q M N F G w6):=hMd;have HX6:Hid _:=HX5.out.keeps hk6 (fun b hb=>HA.out.2.2.2 b (.inr hb)) (fun b h1 h2=>(HA.out.2.1 b h2).2 h1);clear hk6 hMd h8 H5 HX5 hl12 k1 k2 HM8;have b7:=HX6.out.b7;have hl7:=aI b7 rfl;have hl5:=bH HX6.out.b5;clear b7
 have HPs:Hid (Calls Tryz.prog 88 #[.agg (au v (.slice pr nr cr)),.agg (au v (.slice pa v.l.length c))] w6 fun e w'=>e=.returned (.bool true)/\Bl w6 w'):=(iS v HA.out.2.2.1 v (.slice pr nr cr) (.slice pa v.l.length c) w6 _ _ HX6.out.sl HX6.out.sv).mono fun e w' ⟨B,h1,h2,h3⟩=>by
  rw [h2.2 rfl]at h1;exact⟨h1,h3⟩
 simp only [au]at hl7 hl5 HPs
 go_wp2_with fail
 refine Calls.mono HPs.out ?_;rintro e w7 ⟨rfl,hb7⟩;have H7:Hid (Bl w6 w7):=hb7;have HX7:Hid _:=HX6.out.below hb7;clear hb7 HX6 hl7 hl5 HPs;have b7:=HX7.out.b7;have hl7:=aI b7 rfl;clear b7;simp only [au]at hl7
 go_wp2_with fail
 refine(fV 42 v.kind v.n v.r v.s (.slice pr nr cr) w7 (fun b=>w.heap.size+1≤b/\b<n7) (fun b hb=>by have:=aw HX7.out.b7;have:=hb.2;omega) HX7.out.sp).mono ?_;rintro e w8 ⟨rfl,hk8,-⟩;have HF:Hid (dt w p q M N F G (.returned (.bool true)) w8):=Md2.done rfl H4.out.1 H6.out HA.out.2.2.2 H4.out.2.2 H7.out hk8;have k1:w8.cell? ⟨w.heap.size,1,none⟩=some (.int .u8 10):=by rw [ag (hk8.none HX7.out.b5 (fun e=>by have:=e.1;omega))];rfl
 clear hk8 hl7 HX7 H7 H6
 rcases HZ5.out with ⟨hz1,rfl⟩ | ⟨rfl,rfl,hz2,hz3⟩
 ·have hzb:(a6==0)=false:=by simpa using hz1
  have hzn:¬ a6=0:=hz1;clear hz1 HZ5
  go_wp2_with fail
  go_ret
  exact HF.out
 ·have hzw:wrap64 (r6+1)=r6+1:=by unfold wrap64;omega
  clear hz2 hz3 HZ5
  go_wp2_with fail
  go_ret
  exact HF.out
end
section
theorem jU (w:World):Calls Tryz.prog 205 #[S_,S_] w fun e w'=>e=.returned (.bool true)/\Bl w w':=by
 go_enter Tryz.func205,Tryz.ntmps205
 go_wp2_with fail
 go_loopw [5] (fun vi wr=>vi=J 0/\wr=w) (fun _ _=>0)
 case atStart=>exact⟨rfl,rfl⟩
 case round =>
  obtain⟨rfl,rfl⟩:=hrel
  go_wp2_with fail
  go_ret
  exact⟨rfl,br⟩
end
section
theorem kG {w:World} {F1 F2:Nat->Prop} {v:Val} (h:v.wf) {r1 r2:Value} (h1:SlAt w F1 r1 v.l) (h2:SlAt w F2 r2 v.l):Calls Tryz.prog 178 #[.agg (au v r1),.agg (au v r2)] w fun e w'=>e=.returned (.bool true)/\Bl w w':=by
 refine(iO v h v r1 r2 w F1 F2 h1 h2).mono ?_;rintro e w' ⟨B,rfl,hB,hb⟩;rw [hB.2 rfl];exact⟨rfl,hb⟩
theorem iT:bX 20 27 19 bp:=fun _ _ _ _ _=>rfl
theorem jD:bX 22 27 21 bp:=fun _ _ _ _ _=>rfl
def zW (B0:Nat) (k h vk vn vr n lo tg bi s:Int) (vstr:ByteArray) (fu:Bool) (rc rl rg r7:Value) (j:Nat) (v:Value) (_:World):Prop :=
 match j with
 | 0=>v=P_ B0
 | 1=>v=U k
 | 2=>v=P_ (B0+1)
 | 3=>v=U k
 | 4=>v=.bool false
 | 5=>v=.bool false
 | 6=>v=R_ B0 1
 | 7=>v=J h
 | 8=>v=R_ (B0+1) 1
 | 9=>v=J h
 | 10=>v=.bool false
 | 11=>v=.bool false
 | 12=>v=.bool false
 | 13=>v=R_ B0 2
 | 14=>v=.agg (V_ vk vn vstr rc vr)
 | 15=>v=R_ (B0+1) 2
 | 16=>v=.agg (V_ vk vn vstr rl vr)
 | 17=>v=.bool true
 | 18=>v=.bool false
 | 19=>v=.bool false
 | 20=>v=.bool false
 | 21=>v=R_ B0 7
 | 22=>v=rg
 | 23=>v=.agg (V_ 3 0 ⟨#[]⟩ rg 0)
 | 24=>v=R_ (B0+1) 7
 | 25=>v=r7
 | 26=>v=.agg (V_ 3 0 ⟨#[]⟩ r7 0)
 | 27=>v=.bool true
 | 28=>v=.bool false
 | 29=>v=.bool false
 | 30=>v=.bool false
 | 31=>v=R_ B0 8
 | 32=>v=J n
 | 33=>v=R_ (B0+1) 8
 | 34=>v=J n
 | 35=>v=.bool false
 | 36=>v=.bool false
 | 37=>v=.bool false
 | 38=>v=R_ B0 9
 | 39=>v=J lo
 | 40=>v=R_ (B0+1) 9
 | 41=>v=J lo
 | 42=>v=.bool false
 | 43=>v=.bool false
 | 44=>v=.bool false
 | 45=>v=R_ B0 10
 | 46=>v=J tg
 | 47=>v=R_ (B0+1) 10
 | 48=>v=J tg
 | 49=>v=.bool false
 | 50=>v=.bool false
 | 51=>v=.bool false
 | 52=>v=R_ B0 11
 | 53=>v=J bi
 | 54=>v=R_ (B0+1) 11
 | 55=>v=J bi
 | 56=>v=.bool false
 | 57=>v=.bool false
 | 58=>v=.bool false
 | 59=>v=R_ B0 12
 | 60=>v=U s
 | 61=>v=R_ (B0+1) 12
 | 62=>v=U s
 | 63=>v=.bool false
 | 64=>v=.bool false
 | 65=>v=.bool false
 | 66=>v=R_ B0 13
 | 67=>v=.bool fu
 | 68=>v=R_ (B0+1) 13
 | 69=>v=.bool fu
 | 70=>v=.bool false
 | 71=>v=.bool false
 | 72=>v=.bool false
 | 73=>v=R_ B0 15
 | 74=>v=.slice none 0 0
 | 75=>v=J 0
 | 76=>v=R_ (B0+1) 15
 | 77=>v=.slice none 0 0
 | 78=>v=J 0
 | 79=>v=.bool false
 | _=>True
theorem nj {w:World} {F1 F2:Nat->Prop} (t:Th) (vl2 vals2:Value) (h1:SlAt w F1 t.vl t.v.l) (h2:SlAt w F1 t.vals t.vs) (h3:SlAt w F2 vl2 t.v.l) (h4:SlAt w F2 vals2 t.vs) (hwf:t.v.wf) (hwfs:(aJ t.vs).wf) (hc:t.code=.slice none 0 0) (hn:t.names=.slice none 0 0) :
 Calls Tryz.prog 110 #[.agg (aF t),.agg (aF { t with vl:=vl2,vals:=vals2 })] w fun e w'=>e=.returned (.bool true)/\Bl w w':=by
 have HS1:Hid (∀ w',Bl w w'->Calls Tryz.prog 178 #[.agg (au t.v t.vl),.agg (au t.v vl2)] w' fun e w''=>e=.returned (.bool true)/\Bl w' w''):=fun w' hb=>kG hwf (h1.on hb) (h3.on hb);have HS2:Hid (∀ w',Bl w w'->Calls Tryz.prog 178 #[.agg (au (aJ t.vs) t.vals),.agg (au (aJ t.vs) vals2)] w' fun e w''=>e=.returned (.bool true)/\Bl w' w''):=fun w' hb=>kG hwfs (h2.on hb) (h4.on hb);obtain⟨k,h,⟨vk,vn,vstr,vl,vr⟩,raw,vs,vals,n,lo,tg,bi,s,fu,code,names⟩:=t;obtain⟨pv,cv,hv⟩:=h1.form;obtain⟨ps,cs,hvals⟩:=h2.form;obtain⟨pv2,cv2,hv2⟩:=h3.form;obtain⟨ps2,cs2,hvals2⟩:=h4.form;simp only at hv hvals hc hn hv2 hvals2;subst hv hvals hc hn hv2 hvals2;simp only [au,aJ,aF]at HS1 HS2 ⊢;clear h1 h2 h3 h4 hwf hwfs
 have HT:Hid (∀ w2,w2=((w.alloc (.cells (X_ k h vk vn vstr (.slice pv vl.length cv) vr (.slice ps vs.length cs) n lo tg bi s fu) 46)).alloc (.cells (X_ k h vk vn vstr (.slice pv2 vl.length cv2) vr (.slice ps2 vs.length cs2) n lo tg bi s fu) 46))->Bl w w2 /\
  w2.heap[w.heap.size]? = some (.cells (X_ k h vk vn vstr (.slice pv vl.length cv) vr (.slice ps vs.length cs) n lo tg bi s fu) 46 (0,0)) /\
  w2.heap[w.heap.size+1]? = some (.cells (X_ k h vk vn vstr (.slice pv2 vl.length cv2) vr (.slice ps2 vs.length cs2) n lo tg bi s fu) 46 (0,0))):=fun w2 e=>by
  subst e;exact⟨((Below.refl _ w).alloc aH _).alloc (by simp) _,aL w _ _,aK w _ _⟩
 go_enter Tryz.func110,Tryz.ntmps110
 go_upto_region 1 with fail
 revert HT;generalize ((w.alloc _).alloc _)=w2;intro HT;have HT:Hid (_/\_/\_):=HT.out w2 rfl;have HB2:Hid (∀ w',Bl w2 w'->Bl w w'):=fun w' hb=>HT.out.1.trans (hb.mono HT.out.1.size);obtain⟨B0,hB0⟩:∃ B0,B0=w.heap.size:=⟨_,rfl⟩;have HBx:=HT.out.2;rw [<- hB0]at HBx ⊢;have HBx:Hid (_/\_):=HBx;clear hB0;refine aR 80 (by kernel_rfl) rfl (by kernel_rfl) (by kernel_rfl) (fun a b=>Bl a b) (zW B0 k h vk vn vr n lo tg bi s vstr fu (.slice pv vl.length cv) (.slice pv2 vl.length cv2) (.slice ps vs.length cs) (.slice ps2 vs.length cs2)) (fun w'=>Bl w2 w') (fun j v w w' _ h=>h) below_drew (fun a b h hR=>h.trans (hR.mono h.size)) ?_ ?_ ?_
 ·intro j q g b hq hgd;have hj:j<80:=ji hq
  match j,hj with
  | 0,_=>cases hq;cases hgd
  | 1,_=>cases hq;cases hgd
  | 2,_=>cases hq;cases hgd
  | 3,_=>cases hq;cases hgd
  | 4,_=>cases hq;cases hgd
  | 5,_=>cases hq;cases hgd
  | 6,_=>cases hq;cases hgd;exact fun v w h=>h
  | 7,_=>cases hq;cases hgd;exact fun v w h=>h
  | 8,_=>cases hq;cases hgd;exact fun v w h=>h
  | 9,_=>cases hq;cases hgd;exact fun v w h=>h
  | 10,_=>cases hq;cases hgd;exact fun v w h=>h
  | 11,_=>cases hq;cases hgd
  | 12,_=>cases hq;cases hgd
  | 13,_=>cases hq;cases hgd;exact fun v w h=>h
  | 14,_=>cases hq;cases hgd;exact fun v w h=>h
  | 15,_=>cases hq;cases hgd;exact fun v w h=>h
  | 16,_=>cases hq;cases hgd;exact fun v w h=>h
  | 17,_=>cases hq;cases hgd;exact fun v w h=>h
  | 18,_=>cases hq;cases hgd;exact fun v w h=>h
  | 19,_=>cases hq;cases hgd
  | 20,_=>cases hq;cases hgd
  | 21,_=>cases hq;cases hgd;exact fun v w h=>h
  | 22,_=>cases hq;cases hgd;exact fun v w h=>h
  | 23,_=>cases hq;cases hgd;exact fun v w h=>h
  | 24,_=>cases hq;cases hgd;exact fun v w h=>h
  | 25,_=>cases hq;cases hgd;exact fun v w h=>h
  | 26,_=>cases hq;cases hgd;exact fun v w h=>h
  | 27,_=>cases hq;cases hgd;exact fun v w h=>h
  | 28,_=>cases hq;cases hgd;exact fun v w h=>h
  | 29,_=>cases hq;cases hgd
  | 30,_=>cases hq;cases hgd
  | 31,_=>cases hq;cases hgd;exact fun v w h=>h
  | 32,_=>cases hq;cases hgd;exact fun v w h=>h
  | 33,_=>cases hq;cases hgd;exact fun v w h=>h
  | 34,_=>cases hq;cases hgd;exact fun v w h=>h
  | 35,_=>cases hq;cases hgd;exact fun v w h=>h
  | 36,_=>cases hq;cases hgd
  | 37,_=>cases hq;cases hgd
  | 38,_=>cases hq;cases hgd;exact fun v w h=>h
  | 39,_=>cases hq;cases hgd;exact fun v w h=>h
  | 40,_=>cases hq;cases hgd;exact fun v w h=>h
  | 41,_=>cases hq;cases hgd;exact fun v w h=>h
  | 42,_=>cases hq;cases hgd;exact fun v w h=>h
  | 43,_=>cases hq;cases hgd
  | 44,_=>cases hq;cases hgd
  | 45,_=>cases hq;cases hgd;exact fun v w h=>h
  | 46,_=>cases hq;cases hgd;exact fun v w h=>h
  | 47,_=>cases hq;cases hgd;exact fun v w h=>h
  | 48,_=>cases hq;cases hgd;exact fun v w h=>h
  | 49,_=>cases hq;cases hgd;exact fun v w h=>h
  | 50,_=>cases hq;cases hgd
  | 51,_=>cases hq;cases hgd
  | 52,_=>cases hq;cases hgd;exact fun v w h=>h
  | 53,_=>cases hq;cases hgd;exact fun v w h=>h
  | 54,_=>cases hq;cases hgd;exact fun v w h=>h
  | 55,_=>cases hq;cases hgd;exact fun v w h=>h
  | 56,_=>cases hq;cases hgd;exact fun v w h=>h
  | 57,_=>cases hq;cases hgd
  | 58,_=>cases hq;cases hgd
  | 59,_=>cases hq;cases hgd;exact fun v w h=>h
  | 60,_=>cases hq;cases hgd;exact fun v w h=>h
  | 61,_=>cases hq;cases hgd;exact fun v w h=>h
  | 62,_=>cases hq;cases hgd;exact fun v w h=>h
  | 63,_=>cases hq;cases hgd;exact fun v w h=>h
  | 64,_=>cases hq;cases hgd
  | 65,_=>cases hq;cases hgd
  | 66,_=>cases hq;cases hgd;exact fun v w h=>h
  | 67,_=>cases hq;cases hgd;exact fun v w h=>h
  | 68,_=>cases hq;cases hgd;exact fun v w h=>h
  | 69,_=>cases hq;cases hgd;exact fun v w h=>h
  | 70,_=>cases hq;cases hgd;exact fun v w h=>h
  | 71,_=>cases hq;cases hgd
  | 72,_=>cases hq;cases hgd
  | 73,_=>cases hq;cases hgd;exact fun v w h=>h
  | 74,_=>cases hq;cases hgd;exact fun v w h=>h
  | 75,_=>cases hq;cases hgd;exact fun v w h=>h
  | 76,_=>cases hq;cases hgd;exact fun v w h=>h
  | 77,_=>cases hq;cases hgd;exact fun v w h=>h
  | 78,_=>cases hq;cases hgd;exact fun v w h=>h
  | 79,_=>cases hq;cases hgd;exact fun v w h=>h
 ·intro j q a w7 hq hC hG;have hj:j<80:=ji hq
  match j,hj with
  | 0,_=>cases hq;have h2':a.tmps[2]?.getD undef=P_ B0:=gq (hG.fr 2 (by simp));unfold Oper.wp;simp [go_sem,Act.eval,h2'];exact⟨_,rfl,br,rfl⟩
  | 1,_ =>
    cases hq;have h6':=gq (i:=6) (gd hG 0 rfl);have c3:w7.cell? ⟨B0,0,none⟩=some (.int .u8 k):=by rw [ag (ae hC HBx.out.1)];rfl
    unfold Oper.wp;simp [go_sem,Act.eval,h6',c3];exact⟨_,rfl,br,rfl⟩
  | 2,_=>cases hq;have h3':a.tmps[3]?.getD undef=P_ (B0+1):=gq (hG.fr 3 (by simp));unfold Oper.wp;simp [go_sem,Act.eval,h3'];exact⟨_,rfl,br,rfl⟩
  | 3,_ =>
    cases hq;have h8':=gq (i:=8) (gd hG 2 rfl);have c3:w7.cell? ⟨B0+1,0,none⟩=some (.int .u8 k):=by rw [ag (ae hC HBx.out.2)];rfl
    unfold Oper.wp;simp [go_sem,Act.eval,h8',c3];exact⟨_,rfl,br,rfl⟩
  | 4,_=>cases hq;have h7':=gq (i:=7) (gd hG 1 rfl);have h9':=gq (i:=9) (gd hG 3 rfl);unfold Oper.wp;simp [go_sem,Act.eval,h7',h9'];exact⟨_,rfl,br,rfl⟩
  | 5,_=>cases hq;have h10':=gq (i:=10) (gd hG 4 rfl);unfold Oper.wp;simp [go_sem,Act.eval,h10'];exact⟨_,rfl,br,rfl⟩
  | 6,_=>cases hq;have h2':a.tmps[2]?.getD undef=P_ B0:=gq (hG.fr 2 (by simp));unfold Oper.wp;simp [go_sem,Act.eval,h2'];exact⟨_,rfl,br,rfl⟩
  | 7,_ =>
    cases hq;have h12':=gq (i:=12) (gd hG 6 rfl);have c3:w7.cell? ⟨B0,1,none⟩=some (.int .i64 h):=by rw [ag (ae hC HBx.out.1)];rfl
    unfold Oper.wp;simp [go_sem,Act.eval,h12',c3];exact⟨_,rfl,br,rfl⟩
  | 8,_=>cases hq;have h3':a.tmps[3]?.getD undef=P_ (B0+1):=gq (hG.fr 3 (by simp));unfold Oper.wp;simp [go_sem,Act.eval,h3'];exact⟨_,rfl,br,rfl⟩
  | 9,_ =>
    cases hq;have h14':=gq (i:=14) (gd hG 8 rfl);have c3:w7.cell? ⟨B0+1,1,none⟩=some (.int .i64 h):=by rw [ag (ae hC HBx.out.2)];rfl
    unfold Oper.wp;simp [go_sem,Act.eval,h14',c3];exact⟨_,rfl,br,rfl⟩
  | 10,_=>cases hq;have h13':=gq (i:=13) (gd hG 7 rfl);have h15':=gq (i:=15) (gd hG 9 rfl);unfold Oper.wp;simp [go_sem,Act.eval,h13',h15'];exact⟨_,rfl,br,rfl⟩
  | 11,_=>cases hq;have h11':=gq (i:=11) (gd hG 5 rfl);have h16':=gq (i:=16) (gd hG 10 rfl);unfold Oper.wp;simp [go_sem,Act.eval,h11',h16'];exact⟨_,rfl,br,rfl⟩
  | 12,_=>cases hq;have h17':=gq (i:=17) (gd hG 11 rfl);unfold Oper.wp;simp [go_sem,Act.eval,h17'];exact⟨_,rfl,br,rfl⟩
  | 13,_=>cases hq;have h2':a.tmps[2]?.getD undef=P_ B0:=gq (hG.fr 2 (by simp));unfold Oper.wp;simp [go_sem,Act.eval,h2'];exact⟨_,rfl,br,rfl⟩
  | 14,_ =>
    cases hq;have h19:a.tmps.getD 19 undef=R_ B0 2:=gd hG 13 rfl;refine aT (.agg (V_ vk vn vstr (.slice pv vl.length cv) vr)) ?_ br rfl;rw [iT];show (bp (a.tmps.getD 19 undef)).run _ _=_;rw [h19];exact cF (t:=⟨k,h,⟨vk,vn,vstr,vl,vr⟩,(.slice pv vl.length cv),vs,(.slice ps vs.length cs),n,lo,tg,bi,s,fu,S_,S_⟩) (ae hC HBx.out.1)
  | 15,_=>cases hq;have h3':a.tmps[3]?.getD undef=P_ (B0+1):=gq (hG.fr 3 (by simp));unfold Oper.wp;simp [go_sem,Act.eval,h3'];exact⟨_,rfl,br,rfl⟩
  | 16,_ =>
    cases hq;have h21:a.tmps.getD 21 undef=R_ (B0+1) 2:=gd hG 15 rfl;refine aT (.agg (V_ vk vn vstr (.slice pv2 vl.length cv2) vr)) ?_ br rfl;rw [jD];show (bp (a.tmps.getD 21 undef)).run _ _=_;rw [h21];exact cF (t:=⟨k,h,⟨vk,vn,vstr,vl,vr⟩,(.slice pv2 vl.length cv2),vs,(.slice ps2 vs.length cs2),n,lo,tg,bi,s,fu,S_,S_⟩) (ae hC HBx.out.2)
  | 17,_ =>
    cases hq;have h20':=gq (i:=20) (gd hG 14 rfl);have h22':=gq (i:=22) (gd hG 16 rfl);unfold Oper.wp;simp [go_sem,callFunc,Act.eval,Tryz.func178,h20',h22'];refine Calls.mono (HS1.out w7 (HB2.out w7 hC)) ?_;rintro e w8 ⟨rfl,hb8⟩;exact⟨_,rfl,hb8,rfl⟩
  | 18,_=>cases hq;have h23':=gq (i:=23) (gd hG 17 rfl);unfold Oper.wp;simp [go_sem,Act.eval,h23'];exact⟨_,rfl,br,rfl⟩
  | 19,_=>cases hq;have h18':=gq (i:=18) (gd hG 12 rfl);have h24':=gq (i:=24) (gd hG 18 rfl);unfold Oper.wp;simp [go_sem,Act.eval,h18',h24'];exact⟨_,rfl,br,rfl⟩
  | 20,_=>cases hq;have h25':=gq (i:=25) (gd hG 19 rfl);unfold Oper.wp;simp [go_sem,Act.eval,h25'];exact⟨_,rfl,br,rfl⟩
  | 21,_=>cases hq;have h2':a.tmps[2]?.getD undef=P_ B0:=gq (hG.fr 2 (by simp));unfold Oper.wp;simp [go_sem,Act.eval,h2'];exact⟨_,rfl,br,rfl⟩
  | 22,_ =>
    cases hq;have h27':=gq (i:=27) (gd hG 21 rfl);have c3:w7.cell? ⟨B0,7,none⟩=some ((.slice ps vs.length cs)):=by rw [ag (ae hC HBx.out.1)];rfl
    unfold Oper.wp;simp [go_sem,Act.eval,h27',c3];exact⟨_,rfl,br,rfl⟩
  | 23,_ =>
    cases hq;have h28':=gq (i:=28) (gd hG 22 rfl);unfold Oper.wp;simp [go_sem,callFunc,Act.eval,Tryz.func175,h28'];refine Calls.mono (iR w7 _ _ _) ?_;rintro e w8 ⟨rfl,hb8⟩;exact⟨_,rfl,hb8,rfl⟩
  | 24,_=>cases hq;have h3':a.tmps[3]?.getD undef=P_ (B0+1):=gq (hG.fr 3 (by simp));unfold Oper.wp;simp [go_sem,Act.eval,h3'];exact⟨_,rfl,br,rfl⟩
  | 25,_ =>
    cases hq;have h30':=gq (i:=30) (gd hG 24 rfl);have c3:w7.cell? ⟨B0+1,7,none⟩=some ((.slice ps2 vs.length cs2)):=by rw [ag (ae hC HBx.out.2)];rfl
    unfold Oper.wp;simp [go_sem,Act.eval,h30',c3];exact⟨_,rfl,br,rfl⟩
  | 26,_ =>
    cases hq;have h31':=gq (i:=31) (gd hG 25 rfl);unfold Oper.wp;simp [go_sem,callFunc,Act.eval,Tryz.func175,h31'];refine Calls.mono (iR w7 _ _ _) ?_;rintro e w8 ⟨rfl,hb8⟩;exact⟨_,rfl,hb8,rfl⟩
  | 27,_ =>
    cases hq;have h29':=gq (i:=29) (gd hG 23 rfl);have h32':=gq (i:=32) (gd hG 26 rfl);unfold Oper.wp;simp [go_sem,callFunc,Act.eval,Tryz.func178,h29',h32'];refine Calls.mono (HS2.out w7 (HB2.out w7 hC)) ?_;rintro e w8 ⟨rfl,hb8⟩;exact⟨_,rfl,hb8,rfl⟩
  | 28,_=>cases hq;have h33':=gq (i:=33) (gd hG 27 rfl);unfold Oper.wp;simp [go_sem,Act.eval,h33'];exact⟨_,rfl,br,rfl⟩
  | 29,_=>cases hq;have h26':=gq (i:=26) (gd hG 20 rfl);have h34':=gq (i:=34) (gd hG 28 rfl);unfold Oper.wp;simp [go_sem,Act.eval,h26',h34'];exact⟨_,rfl,br,rfl⟩
  | 30,_=>cases hq;have h35':=gq (i:=35) (gd hG 29 rfl);unfold Oper.wp;simp [go_sem,Act.eval,h35'];exact⟨_,rfl,br,rfl⟩
  | 31,_=>cases hq;have h2':a.tmps[2]?.getD undef=P_ B0:=gq (hG.fr 2 (by simp));unfold Oper.wp;simp [go_sem,Act.eval,h2'];exact⟨_,rfl,br,rfl⟩
  | 32,_ =>
    cases hq;have h37':=gq (i:=37) (gd hG 31 rfl);have c3:w7.cell? ⟨B0,8,none⟩=some (.int .i64 n):=by rw [ag (ae hC HBx.out.1)];rfl
    unfold Oper.wp;simp [go_sem,Act.eval,h37',c3];exact⟨_,rfl,br,rfl⟩
  | 33,_=>cases hq;have h3':a.tmps[3]?.getD undef=P_ (B0+1):=gq (hG.fr 3 (by simp));unfold Oper.wp;simp [go_sem,Act.eval,h3'];exact⟨_,rfl,br,rfl⟩
  | 34,_ =>
    cases hq;have h39':=gq (i:=39) (gd hG 33 rfl);have c3:w7.cell? ⟨B0+1,8,none⟩=some (.int .i64 n):=by rw [ag (ae hC HBx.out.2)];rfl
    unfold Oper.wp;simp [go_sem,Act.eval,h39',c3];exact⟨_,rfl,br,rfl⟩
  | 35,_=>cases hq;have h38':=gq (i:=38) (gd hG 32 rfl);have h40':=gq (i:=40) (gd hG 34 rfl);unfold Oper.wp;simp [go_sem,Act.eval,h38',h40'];exact⟨_,rfl,br,rfl⟩
  | 36,_=>cases hq;have h36':=gq (i:=36) (gd hG 30 rfl);have h41':=gq (i:=41) (gd hG 35 rfl);unfold Oper.wp;simp [go_sem,Act.eval,h36',h41'];exact⟨_,rfl,br,rfl⟩
  | 37,_=>cases hq;have h42':=gq (i:=42) (gd hG 36 rfl);unfold Oper.wp;simp [go_sem,Act.eval,h42'];exact⟨_,rfl,br,rfl⟩
  | 38,_=>cases hq;have h2':a.tmps[2]?.getD undef=P_ B0:=gq (hG.fr 2 (by simp));unfold Oper.wp;simp [go_sem,Act.eval,h2'];exact⟨_,rfl,br,rfl⟩
  | 39,_ =>
    cases hq;have h44':=gq (i:=44) (gd hG 38 rfl);have c3:w7.cell? ⟨B0,9,none⟩=some (.int .i64 lo):=by rw [ag (ae hC HBx.out.1)];rfl
    unfold Oper.wp;simp [go_sem,Act.eval,h44',c3];exact⟨_,rfl,br,rfl⟩
  | 40,_=>cases hq;have h3':a.tmps[3]?.getD undef=P_ (B0+1):=gq (hG.fr 3 (by simp));unfold Oper.wp;simp [go_sem,Act.eval,h3'];exact⟨_,rfl,br,rfl⟩
  | 41,_ =>
    cases hq;have h46':=gq (i:=46) (gd hG 40 rfl);have c3:w7.cell? ⟨B0+1,9,none⟩=some (.int .i64 lo):=by rw [ag (ae hC HBx.out.2)];rfl
    unfold Oper.wp;simp [go_sem,Act.eval,h46',c3];exact⟨_,rfl,br,rfl⟩
  | 42,_=>cases hq;have h45':=gq (i:=45) (gd hG 39 rfl);have h47':=gq (i:=47) (gd hG 41 rfl);unfold Oper.wp;simp [go_sem,Act.eval,h45',h47'];exact⟨_,rfl,br,rfl⟩
  | 43,_=>cases hq;have h43':=gq (i:=43) (gd hG 37 rfl);have h48':=gq (i:=48) (gd hG 42 rfl);unfold Oper.wp;simp [go_sem,Act.eval,h43',h48'];exact⟨_,rfl,br,rfl⟩
  | 44,_=>cases hq;have h49':=gq (i:=49) (gd hG 43 rfl);unfold Oper.wp;simp [go_sem,Act.eval,h49'];exact⟨_,rfl,br,rfl⟩
  | 45,_=>cases hq;have h2':a.tmps[2]?.getD undef=P_ B0:=gq (hG.fr 2 (by simp));unfold Oper.wp;simp [go_sem,Act.eval,h2'];exact⟨_,rfl,br,rfl⟩
  | 46,_ =>
    cases hq;have h51':=gq (i:=51) (gd hG 45 rfl);have c3:w7.cell? ⟨B0,10,none⟩=some (.int .i64 tg):=by rw [ag (ae hC HBx.out.1)];rfl
    unfold Oper.wp;simp [go_sem,Act.eval,h51',c3];exact⟨_,rfl,br,rfl⟩
  | 47,_=>cases hq;have h3':a.tmps[3]?.getD undef=P_ (B0+1):=gq (hG.fr 3 (by simp));unfold Oper.wp;simp [go_sem,Act.eval,h3'];exact⟨_,rfl,br,rfl⟩
  | 48,_ =>
    cases hq;have h53':=gq (i:=53) (gd hG 47 rfl);have c3:w7.cell? ⟨B0+1,10,none⟩=some (.int .i64 tg):=by rw [ag (ae hC HBx.out.2)];rfl
    unfold Oper.wp;simp [go_sem,Act.eval,h53',c3];exact⟨_,rfl,br,rfl⟩
  | 49,_=>cases hq;have h52':=gq (i:=52) (gd hG 46 rfl);have h54':=gq (i:=54) (gd hG 48 rfl);unfold Oper.wp;simp [go_sem,Act.eval,h52',h54'];exact⟨_,rfl,br,rfl⟩
  | 50,_=>cases hq;have h50':=gq (i:=50) (gd hG 44 rfl);have h55':=gq (i:=55) (gd hG 49 rfl);unfold Oper.wp;simp [go_sem,Act.eval,h50',h55'];exact⟨_,rfl,br,rfl⟩
  | 51,_=>cases hq;have h56':=gq (i:=56) (gd hG 50 rfl);unfold Oper.wp;simp [go_sem,Act.eval,h56'];exact⟨_,rfl,br,rfl⟩
  | 52,_=>cases hq;have h2':a.tmps[2]?.getD undef=P_ B0:=gq (hG.fr 2 (by simp));unfold Oper.wp;simp [go_sem,Act.eval,h2'];exact⟨_,rfl,br,rfl⟩
  | 53,_ =>
    cases hq;have h58':=gq (i:=58) (gd hG 52 rfl);have c3:w7.cell? ⟨B0,11,none⟩=some (.int .i64 bi):=by rw [ag (ae hC HBx.out.1)];rfl
    unfold Oper.wp;simp [go_sem,Act.eval,h58',c3];exact⟨_,rfl,br,rfl⟩
  | 54,_=>cases hq;have h3':a.tmps[3]?.getD undef=P_ (B0+1):=gq (hG.fr 3 (by simp));unfold Oper.wp;simp [go_sem,Act.eval,h3'];exact⟨_,rfl,br,rfl⟩
  | 55,_ =>
    cases hq;have h60':=gq (i:=60) (gd hG 54 rfl);have c3:w7.cell? ⟨B0+1,11,none⟩=some (.int .i64 bi):=by rw [ag (ae hC HBx.out.2)];rfl
    unfold Oper.wp;simp [go_sem,Act.eval,h60',c3];exact⟨_,rfl,br,rfl⟩
  | 56,_=>cases hq;have h59':=gq (i:=59) (gd hG 53 rfl);have h61':=gq (i:=61) (gd hG 55 rfl);unfold Oper.wp;simp [go_sem,Act.eval,h59',h61'];exact⟨_,rfl,br,rfl⟩
  | 57,_=>cases hq;have h57':=gq (i:=57) (gd hG 51 rfl);have h62':=gq (i:=62) (gd hG 56 rfl);unfold Oper.wp;simp [go_sem,Act.eval,h57',h62'];exact⟨_,rfl,br,rfl⟩
  | 58,_=>cases hq;have h63':=gq (i:=63) (gd hG 57 rfl);unfold Oper.wp;simp [go_sem,Act.eval,h63'];exact⟨_,rfl,br,rfl⟩
  | 59,_=>cases hq;have h2':a.tmps[2]?.getD undef=P_ B0:=gq (hG.fr 2 (by simp));unfold Oper.wp;simp [go_sem,Act.eval,h2'];exact⟨_,rfl,br,rfl⟩
  | 60,_ =>
    cases hq;have h65':=gq (i:=65) (gd hG 59 rfl);have c3:w7.cell? ⟨B0,12,none⟩=some (.int .u8 s):=by rw [ag (ae hC HBx.out.1)];rfl
    unfold Oper.wp;simp [go_sem,Act.eval,h65',c3];exact⟨_,rfl,br,rfl⟩
  | 61,_=>cases hq;have h3':a.tmps[3]?.getD undef=P_ (B0+1):=gq (hG.fr 3 (by simp));unfold Oper.wp;simp [go_sem,Act.eval,h3'];exact⟨_,rfl,br,rfl⟩
  | 62,_ =>
    cases hq;have h67':=gq (i:=67) (gd hG 61 rfl);have c3:w7.cell? ⟨B0+1,12,none⟩=some (.int .u8 s):=by rw [ag (ae hC HBx.out.2)];rfl
    unfold Oper.wp;simp [go_sem,Act.eval,h67',c3];exact⟨_,rfl,br,rfl⟩
  | 63,_=>cases hq;have h66':=gq (i:=66) (gd hG 60 rfl);have h68':=gq (i:=68) (gd hG 62 rfl);unfold Oper.wp;simp [go_sem,Act.eval,h66',h68'];exact⟨_,rfl,br,rfl⟩
  | 64,_=>cases hq;have h64':=gq (i:=64) (gd hG 58 rfl);have h69':=gq (i:=69) (gd hG 63 rfl);unfold Oper.wp;simp [go_sem,Act.eval,h64',h69'];exact⟨_,rfl,br,rfl⟩
  | 65,_=>cases hq;have h70':=gq (i:=70) (gd hG 64 rfl);unfold Oper.wp;simp [go_sem,Act.eval,h70'];exact⟨_,rfl,br,rfl⟩
  | 66,_=>cases hq;have h2':a.tmps[2]?.getD undef=P_ B0:=gq (hG.fr 2 (by simp));unfold Oper.wp;simp [go_sem,Act.eval,h2'];exact⟨_,rfl,br,rfl⟩
  | 67,_ =>
    cases hq;have h72':=gq (i:=72) (gd hG 66 rfl);have c3:w7.cell? ⟨B0,13,none⟩=some (.bool fu):=by rw [ag (ae hC HBx.out.1)];rfl
    unfold Oper.wp;simp [go_sem,Act.eval,h72',c3];exact⟨_,rfl,br,rfl⟩
  | 68,_=>cases hq;have h3':a.tmps[3]?.getD undef=P_ (B0+1):=gq (hG.fr 3 (by simp));unfold Oper.wp;simp [go_sem,Act.eval,h3'];exact⟨_,rfl,br,rfl⟩
  | 69,_ =>
    cases hq;have h74':=gq (i:=74) (gd hG 68 rfl);have c3:w7.cell? ⟨B0+1,13,none⟩=some (.bool fu):=by rw [ag (ae hC HBx.out.2)];rfl
    unfold Oper.wp;simp [go_sem,Act.eval,h74',c3];exact⟨_,rfl,br,rfl⟩
  | 70,_=>cases hq;have h73':=gq (i:=73) (gd hG 67 rfl);have h75':=gq (i:=75) (gd hG 69 rfl);unfold Oper.wp;simp [go_sem,Act.eval,h73',h75'];exact⟨_,rfl,br,rfl⟩
  | 71,_=>cases hq;have h71':=gq (i:=71) (gd hG 65 rfl);have h76':=gq (i:=76) (gd hG 70 rfl);unfold Oper.wp;simp [go_sem,Act.eval,h71',h76'];exact⟨_,rfl,br,rfl⟩
  | 72,_=>cases hq;have h77':=gq (i:=77) (gd hG 71 rfl);unfold Oper.wp;simp [go_sem,Act.eval,h77'];exact⟨_,rfl,br,rfl⟩
  | 73,_=>cases hq;have h2':a.tmps[2]?.getD undef=P_ B0:=gq (hG.fr 2 (by simp));unfold Oper.wp;simp [go_sem,Act.eval,h2'];exact⟨_,rfl,br,rfl⟩
  | 74,_ =>
    cases hq;have h79':=gq (i:=79) (gd hG 73 rfl);have c3:w7.cell? ⟨B0,15,none⟩=some (.slice none 0 0):=by rw [ag (ae hC HBx.out.1)];rfl
    unfold Oper.wp;simp [go_sem,Act.eval,h79',c3];exact⟨_,rfl,br,rfl⟩
  | 75,_=>cases hq;have h80':=gq (i:=80) (gd hG 74 rfl);unfold Oper.wp;simp [go_sem,Act.eval,h80'];exact⟨_,rfl,br,rfl⟩
  | 76,_=>cases hq;have h3':a.tmps[3]?.getD undef=P_ (B0+1):=gq (hG.fr 3 (by simp));unfold Oper.wp;simp [go_sem,Act.eval,h3'];exact⟨_,rfl,br,rfl⟩
  | 77,_ =>
    cases hq;have h82':=gq (i:=82) (gd hG 76 rfl);have c3:w7.cell? ⟨B0+1,15,none⟩=some (.slice none 0 0):=by rw [ag (ae hC HBx.out.2)];rfl
    unfold Oper.wp;simp [go_sem,Act.eval,h82',c3];exact⟨_,rfl,br,rfl⟩
  | 78,_=>cases hq;have h83':=gq (i:=83) (gd hG 77 rfl);unfold Oper.wp;simp [go_sem,Act.eval,h83'];exact⟨_,rfl,br,rfl⟩
  | 79,_=>cases hq;have h81':=gq (i:=81) (gd hG 75 rfl);have h84':=gq (i:=84) (gd hG 78 rfl);unfold Oper.wp;simp [go_sem,Act.eval,h81',h84'];exact⟨_,rfl,br,rfl⟩
 intro a w7 hC hdf hsz hfr hphi;have e0:a.tmps.getD 6 undef=_:=hphi 0 _ rfl;have e1:a.tmps.getD 7 undef=U k:=hphi 1 _ rfl;have e2:a.tmps.getD 8 undef=_:=hphi 2 _ rfl;have e3:a.tmps.getD 9 undef=U k:=hphi 3 _ rfl;have e4:a.tmps.getD 10 undef=_:=hphi 4 _ rfl;have e5:a.tmps.getD 11 undef=_:=hphi 5 _ rfl;have e6:a.tmps.getD 12 undef=_:=hphi 6 _ rfl;have e7:a.tmps.getD 13 undef=J h:=hphi 7 _ rfl;have e8:a.tmps.getD 14 undef=_:=hphi 8 _ rfl;have e9:a.tmps.getD 15 undef=J h:=hphi 9 _ rfl;have e10:a.tmps.getD 16 undef=_:=hphi 10 _ rfl;have e11:a.tmps.getD 17 undef=_:=hphi 11 _ rfl;have e12:a.tmps.getD 18 undef=_:=hphi 12 _ rfl;have e13:a.tmps.getD 19 undef=_:=hphi 13 _ rfl;have e14:a.tmps.getD 20 undef=_:=hphi 14 _ rfl;have e15:a.tmps.getD 21 undef=_:=hphi 15 _ rfl;have e16:a.tmps.getD 22 undef=_:=hphi 16 _ rfl;have e17:a.tmps.getD 23 undef=_:=hphi 17 _ rfl;have e18:a.tmps.getD 24 undef=_:=hphi 18 _ rfl;have e19:a.tmps.getD 25 undef=_:=hphi 19 _ rfl;have e20:a.tmps.getD 26 undef=_:=hphi 20 _ rfl;have e21:a.tmps.getD 27 undef=_:=hphi 21 _ rfl;have e22:a.tmps.getD 28 undef=_:=hphi 22 _ rfl;have e23:a.tmps.getD 29 undef=_:=hphi 23 _ rfl;have e24:a.tmps.getD 30 undef=_:=hphi 24 _ rfl;have e25:a.tmps.getD 31 undef=_:=hphi 25 _ rfl;have e26:a.tmps.getD 32 undef=_:=hphi 26 _ rfl;have e27:a.tmps.getD 33 undef=_:=hphi 27 _ rfl;have e28:a.tmps.getD 34 undef=_:=hphi 28 _ rfl;have e29:a.tmps.getD 35 undef=_:=hphi 29 _ rfl;have e30:a.tmps.getD 36 undef=_:=hphi 30 _ rfl;have e31:a.tmps.getD 37 undef=_:=hphi 31 _ rfl;have e32:a.tmps.getD 38 undef=J n:=hphi 32 _ rfl;have e33:a.tmps.getD 39 undef=_:=hphi 33 _ rfl;have e34:a.tmps.getD 40 undef=J n:=hphi 34 _ rfl;have e35:a.tmps.getD 41 undef=_:=hphi 35 _ rfl;have e36:a.tmps.getD 42 undef=_:=hphi 36 _ rfl;have e37:a.tmps.getD 43 undef=_:=hphi 37 _ rfl;have e38:a.tmps.getD 44 undef=_:=hphi 38 _ rfl;have e39:a.tmps.getD 45 undef=_:=hphi 39 _ rfl;have e40:a.tmps.getD 46 undef=_:=hphi 40 _ rfl;have e41:a.tmps.getD 47 undef=_:=hphi 41 _ rfl;have e42:a.tmps.getD 48 undef=_:=hphi 42 _ rfl;have e43:a.tmps.getD 49 undef=_:=hphi 43 _ rfl;have e44:a.tmps.getD 50 undef=_:=hphi 44 _ rfl;have e45:a.tmps.getD 51 undef=_:=hphi 45 _ rfl;have e46:a.tmps.getD 52 undef=_:=hphi 46 _ rfl;have e47:a.tmps.getD 53 undef=_:=hphi 47 _ rfl;have e48:a.tmps.getD 54 undef=_:=hphi 48 _ rfl;have e49:a.tmps.getD 55 undef=_:=hphi 49 _ rfl;have e50:a.tmps.getD 56 undef=_:=hphi 50 _ rfl;have e51:a.tmps.getD 57 undef=_:=hphi 51 _ rfl;have e52:a.tmps.getD 58 undef=_:=hphi 52 _ rfl;have e53:a.tmps.getD 59 undef=_:=hphi 53 _ rfl;have e54:a.tmps.getD 60 undef=_:=hphi 54 _ rfl;have e55:a.tmps.getD 61 undef=_:=hphi 55 _ rfl;have e56:a.tmps.getD 62 undef=_:=hphi 56 _ rfl;have e57:a.tmps.getD 63 undef=_:=hphi 57 _ rfl;have e58:a.tmps.getD 64 undef=_:=hphi 58 _ rfl;have e59:a.tmps.getD 65 undef=_:=hphi 59 _ rfl;have e60:a.tmps.getD 66 undef=U s:=hphi 60 _ rfl;have e61:a.tmps.getD 67 undef=_:=hphi 61 _ rfl;have e62:a.tmps.getD 68 undef=U s:=hphi 62 _ rfl;have e63:a.tmps.getD 69 undef=_:=hphi 63 _ rfl;have e64:a.tmps.getD 70 undef=_:=hphi 64 _ rfl;have e65:a.tmps.getD 71 undef=_:=hphi 65 _ rfl;have e66:a.tmps.getD 72 undef=_:=hphi 66 _ rfl;have e67:a.tmps.getD 73 undef=_:=hphi 67 _ rfl;have e68:a.tmps.getD 74 undef=_:=hphi 68 _ rfl;have e69:a.tmps.getD 75 undef=_:=hphi 69 _ rfl;have e70:a.tmps.getD 76 undef=_:=hphi 70 _ rfl;have e71:a.tmps.getD 77 undef=_:=hphi 71 _ rfl;have e72:a.tmps.getD 78 undef=_:=hphi 72 _ rfl;have e73:a.tmps.getD 79 undef=_:=hphi 73 _ rfl;have e74:a.tmps.getD 80 undef=_:=hphi 74 _ rfl;have e75:a.tmps.getD 81 undef=J 0:=hphi 75 _ rfl;have e76:a.tmps.getD 82 undef=_:=hphi 76 _ rfl;have e77:a.tmps.getD 83 undef=_:=hphi 77 _ rfl;have e78:a.tmps.getD 84 undef=J 0:=hphi 78 _ rfl;have e79:a.tmps.getD 85 undef=_:=hphi 79 _ rfl;have ha:=bq hdf hsz hfr;simp only [List.append_eq,List.cons_append,List.nil_append,List.take_succ_cons,List.take_zero,List.filterMap_cons,List.filterMap_nil,List.foldl_cons,List.foldl_nil,List.setIfInBounds_toArray,List.set_cons_zero,List.set_cons_succ,e0,e1,e2,e3,e4,e5,e6,e7,e8,e9,e10,e11,e12,e13,e14,e15,e16,e17,e18,e19,e20,e21,e22,e23,e24,e25,e26,e27,e28,e29,e30,e31,e32,e33,e34,e35,e36,e37,e38,e39,e40,e41,e42,e43,e44,e45,e46,e47,e48,e49,e50,e51,e52,e53,e54,e55,e56,e57,e58,e59,e60,e61,e62,e63,e64,e65,e66,e67,e68,e69,e70,e71,e72,e73,e74,e75,e76,e77,e78,e79]at ha;clear hdf hsz hfr hphi e0 e1 e2 e3 e4 e5 e6 e7 e8 e9 e10 e11 e12 e13 e14 e15 e16 e17 e18 e19 e20 e21 e22 e23 e24 e25 e26 e27 e28 e29 e30 e31 e32 e33 e34 e35 e36 e37 e38 e39 e40 e41 e42 e43 e44 e45 e46 e47 e48 e49 e50 e51 e52 e53 e54 e55 e56 e57 e58 e59 e60 e61 e62 e63 e64 e65 e66 e67 e68 e69 e70 e71 e72 e73 e74 e75 e76 e77 e78 e79;subst ha;have HT:Hid (Bl w w7/\w7.heap[B0]? = _/\w7.heap[B0+1]? = _):=⟨HB2.out w7 hC,ae hC HBx.out.1,ae hC HBx.out.2⟩;clear hC HB2 HS1 HS2;have aa:=aq HT.out.2.1;have bb:=aq HT.out.2.2;refine⟨rfl,?_⟩;unfold Oper.wp;simp [execOp,go_sem,Act.eval,aV];refine ‹∀ (a:Act) (w:World),Code.wp Tryz.prog _ _ a w->_› _ _ ?_
 go_wp2_with fail
 go_loopw [5] (fun vi wr=>vi=J 0/\wr=w7) (fun _ _=>0)
 case atStart=>exact⟨rfl,rfl⟩
 case round =>
  obtain⟨rfl,rfl⟩:=hrel
  go_wp2_with fail
  refine(jU _).mono ?_;rintro e w8 ⟨rfl,hb⟩;have HB:Hid (Bl w w8):=HT.out.1.trans (hb.mono HT.out.1.size);clear hb aa bb
  go_wp2_with fail
  go_ret
  exact⟨rfl,HB.out⟩
end
end Go.Proofs.YthaliljaglldjaaGreat
