/- Part of the proof. -/
import Derived.Test.YthaliljaglldjaaGreatmBM
namespace Go.Proofs.YthaliljaglldjaaGreat
set_option maxHeartbeats 16000000
set_option maxRecDepth 20000
open Go.RowKit Go.ChangeMaps Go.MapKept
section
theorem qM:bX 17 27 16 bp:=fun _ _ _ _ _=>rfl
theorem ks:bX 22 27 21 bp:=fun _ _ _ _ _=>rfl
theorem wj:bX 82 27 12 bp:=fun _ _ _ _ _=>rfl
theorem ky:bX 95 27 7 bp:=fun _ _ _ _ _=>rfl
theorem kt:bX 97 27 96 bp:=fun _ _ _ _ _=>rfl
theorem jz:bX 101 27 7 bp:=fun _ _ _ _ _=>rfl
theorem yz:bX 35 27 7 bp:=fun _ _ _ _ _=>rfl
theorem kw:ff 27 7 19 bZ:=fun _ _ _ _ _=>rfl
theorem jr:ff 27 12 22 bZ:=fun _ _ _ _ _=>rfl
attribute [local go_sem ↓] qM ks wj ky kt jz yz kw jr in
theorem vm {w:World} {p q:Nat} {M N:WM} {F G F1:Nat->Prop} (hB:Both w p q M N F G) (hl:M.last+2≤100000) (d h on ab:Int) (v:Val) (raw:Value) (hS:SlAt w F1 raw v.l) (hF1:∀ b,F1 b->¬ F b/\¬ G b) (hwf:v.wf) (hroom:cp v=true) :
 Calls Tryz.prog 16 #[P_ p,P_ q,.agg (aU d 1 h on ab v raw)] w (dt w p q M N F G):=by
 obtain⟨pa,c,rfl⟩:=hS.form;have hFl:∀ b,F b\/G b->b<w.heap.size:=fun b hb=>hb.elim (hB.W.lt b) (hB.R.lt b);have HB:Hid _:=hB;have HA:Hid (M.last+2≤100000/\(∀ b,F1 b->¬ F b/\¬ G b)/\v.wf/\∀ b,F b\/G b->b<w.heap.size):=⟨hl,hF1,hwf,hFl⟩;have H1:Hid (Bl w (w.alloc (.cells (aU d 1 h on ab v (.slice pa v.l.length c)) 49))/\(w.alloc (.cells (aU d 1 h on ab v (.slice pa v.l.length c)) 49)).heap[w.heap.size]? = some (.cells (aU d 1 h on ab v (.slice pa v.l.length c)) 49 (0,0))/\(w.alloc (.cells (aU d 1 h on ab v (.slice pa v.l.length c)) 49)).heap.size=w.heap.size+1):=⟨(Below.refl _ w).alloc aH _,ai _ _,by simp⟩;have HS:Hid (SlAt w F1 (.slice pa v.l.length c) v.l):=hS;have HRm:Hid (cp v=true):=hroom;clear hB hl hF1 hwf hFl hS hroom;have e5:aU d 1 h on ab v (.slice pa v.l.length c)=#[.int .i64 d,.int .u8 1,.int .i64 h,.int .i64 on,.int .u8 ab,.int .u8 v.kind,.int .i64 v.n,.string v.s,.slice pa v.l.length c,.int .i64 v.r]:=rfl;rw [e5];clear e5
 go_enter Tryz.func16,Tryz.ntmps16
 go_upto_region 1 with fail
 revert H1;simp only [aU];generalize w.alloc _=w1;intro H1;have hld1:=bH (d:=d) (k:=1) (h:=h) (on:=on) (ab:=ab) H1.out.2.1
 go_wp2_with fail
 refine(gE v (.slice pa v.l.length c) (HS.out.on H1.out.1)).mono ?_;rintro e w2 ⟨raw',rfl,⟨pr,nr,cr,rfl⟩,hb2,hq2⟩;rw [HRm.out];obtain⟨hsl,hsp,-⟩:=hq2 HRm.out
 have H2:Hid (Bl w w2/\w2.heap[w.heap.size]? = some (.cells (aU d 1 h on ab v (.slice pa v.l.length c)) 49 (0,0))/\SlAt w2 (fun b=>w.heap.size+1≤b/\b<w2.heap.size) (.slice pr nr cr) v.l/\Sp w2 (fun b=>w.heap.size+1≤b/\b<w2.heap.size) 42 (.slice pr nr cr)/\w.heap.size<w2.heap.size) :=
  ⟨H1.out.1.trans (hb2.mono H1.out.1.size),ae hb2 H1.out.2.1,(SlAt.lt hsl).mono fun b hb=>⟨by have:=H1.out.2.2;omega,hb.2⟩,(Sp.lt hsp).mono fun b hb=>⟨by have:=H1.out.2.2;omega,hb.2⟩,by have:=H1.out.2.2;have:=hb2.size;omega⟩
 clear hsl hsp hq2 hb2 hld1 H1 HRm
 have H3:Hid (∀ w3,w3=(w2.alloc (.cells zV 27)).setRow w2.heap.size (au v (.slice pr nr cr))->Bl w w3/\Bl w2 w3/\w3.heap[w2.heap.size]? = some (.cells (au v (.slice pr nr cr)) 27 (0,0))/\w3.heap.size=w2.heap.size+1):=fun w3 e=>by
  subst e;have hb:Bl w2 ((w2.alloc (.cells zV 27)).setRow w2.heap.size (au v (.slice pr nr cr))):=Below.setRow ((Below.refl _ w2).alloc aH _) aH _;exact⟨H2.out.1.trans (hb.mono H2.out.1.size),hb,ah (ai _ _),by simp [World.setRow]⟩
 have hst7:=az (c':=au v (.slice pr nr cr)) (ai w2 (.cells zV 27)) rfl rfl (by simp [go_sem,au]);simp only [au,zV]at hst7 H3 ⊢
 go_upto_region 4 with fail
 clear hst7;revert H3;generalize hw3:World.setRow _ _ _=w3;intro H3;have H3:Hid (Bl w w3/\Bl w2 w3/\w3.heap[w2.heap.size]? = some (.cells (au v (.slice pr nr cr)) 27 (0,0))/\w3.heap.size=w2.heap.size+1):=H3.out w3 rfl;clear hw3;have hld3:=bH (d:=d) (k:=1) (h:=h) (on:=on) (ab:=ab) (ae H3.out.2.1 H2.out.2.1);have hst12:=az (c':=au v (.slice pa v.l.length c)) (ai w3 (.cells zV 27)) rfl rfl (by simp [go_sem,au])
 have H4:Hid (∀ w4,w4=(w3.alloc (.cells zV 27)).setRow w3.heap.size (au v (.slice pa v.l.length c))->Bl w w4/\MdW w.heap.size w2.heap.size d 1 h on ab v v (.slice pa v.l.length c) (.slice pr nr cr) (.slice pa v.l.length c) F1 w4/\w2.heap.size≤w4.heap.size):=fun w4 e=>by
  subst e;have hb:Bl w3 ((w3.alloc (.cells zV 27)).setRow w3.heap.size (au v (.slice pa v.l.length c))):=Below.setRow ((Below.refl _ w3).alloc aH _) aH _;have hb2:=H3.out.2.1.trans (hb.mono H3.out.2.1.size);refine⟨H3.out.1.trans (hb.mono H3.out.1.size),⟨H2.out.2.2.2.2,ae hb2 H2.out.2.1,ae hb H3.out.2.2.1,?_,H2.out.2.2.1.on hb2,H2.out.2.2.2.1.on hb2,HS.out.on (H2.out.1.trans (hb2.mono H2.out.1.size)),HS.out.on (H2.out.1.trans (hb2.mono H2.out.1.size))⟩,hb2.size⟩;rw [<- H3.out.2.2.2];exact ah (ai _ _)
 simp only [au,zV]at hst12 H4 hld3 ⊢
 go_upto_region 5 with fail
 clear hst12 hld3;revert H4;generalize hw4:World.setRow _ _ _=w4;intro H4;have H4:Hid (Bl w w4/\MdW w.heap.size w2.heap.size d 1 h on ab v v (.slice pa v.l.length c) (.slice pr nr cr) (.slice pa v.l.length c) F1 w4/\w2.heap.size≤w4.heap.size):=H4.out w4 rfl;have hsz:=H3.out.2.2.2;rw [hsz];clear hw4 H2 H3 HS hsz;generalize w2.heap.size=n7 at *;have HB4:Hid (Both w4 p q M N F G):=HB.out.below H4.out.1;have hd:=H4.out.2.1
 have HC:Hid ((mayE M h v≠0->Calls Tryz.prog 64 #[P_ p,J h,.agg (au v (.slice pr nr cr))] w4 fun e w'=>e=.returned (.tuple #[J 0,J (mayE M h v)])/\Bl w4 w')/\(mayE M h v=0->Calls Tryz.prog 64 #[P_ p,J h,.agg (au v (.slice pr nr cr))] w4 (MadeG w4 p M F h (fun t=>∃ vl',t=bn h v vl')))) :=
  ⟨fun h0=>vg HB4.out.W v _ hd.sl (fX HA.out.2.2.1) h0,fun h0=>tx HB4.out.W (by have:=HA.out.1;omega) (bo h0).1 v _ hd.sl (bo h0).2.1 (gA HA.out.2.2.1 (bo h0).2.2)⟩
 have HM8:Hid (∀ w',Keeps F w4 w'->Calls Tryz.prog 87 #[P_ q,U 1,J h,.agg (au v (.slice pa v.l.length c))] w' (dA w' q N G 1 h v (.slice pa v.l.length c))):=fun w' hk=>by
  have hR':=HB4.out.R.keeps hk fun b h1 h2=>HB4.out.ap b h2 h1;have hS':SlAt w' F1 (.slice pa v.l.length c) (v:Val).l:=hd.sd.keeps hk fun b h1 h2=>(HA.out.2.1 b h2).1 h1;have hg:=HB4.out.good (by have:=HA.out.1;omega);have hwf':(v:Val).wf:=HA.out.2.2.1;refine qf hR' hg (by decide) v (.slice pa v.l.length c) hS' hwf' fun h0 w1 hb1=>?_;obtain⟨hh,hm,hkn⟩:=bo h0;have hS2:=hS'.on hb1;exact mb (hR'.below hb1) hg (.inl rfl) hh v (.slice pa v.l.length c) hS2 (fun b h1=>(HA.out.2.1 b h1).2) hm hkn fun w2 hb2=>qQ w2 _ h hh v pa c (hS2.on hb2) hwf' hm
 have hE:mayE N h v=mayE M h v:=HB.out.al.mayE h v;have hMd:N.made=M.made:=HB.out.al.made;have hLs:N.last=M.last:=HB.out.al.last;have HE:Hid (mayE N h v=mayE M h v/\N.made=M.made/\N.last=M.last):=⟨hE,hMd,hLs⟩;clear hE hMd hLs hd;have b5:=H4.out.2.1.b5;have b7:=H4.out.2.1.b7;have k1:w4.cell? ⟨w.heap.size,1,none⟩=some (.int .u8 1):=by rw [ag b5];rfl
 have k2:w4.cell? ⟨w.heap.size,2,none⟩=some (.int .i64 h):=by rw [ag b5];rfl
 have hl7:=aI b7 rfl;clear b5 b7;simp only [au]at HC HM8 hl7 ⊢
 go_wp2_with fail
 obtain⟨E,hE⟩:∃ E,E=mayE M h v:=⟨_,rfl⟩
 have HP:Hid (∀ (R:Ending->World->Prop),(∀ r5 e5 w5,Keeps F w4 w5->(∀ w6 r6 e6,dA w5 q N G 1 h v (.slice pa v.l.length c) (.returned (.tuple #[J r6,J e6])) w6->r6=r5/\e6=e5/\Md2 w4 p q M N F G w6)->(∀ e6 w6,dA w5 q N G 1 h v (.slice pa v.l.length c) e6 w6->∃ r a,e6=.returned (.tuple #[J r,J a]))->R (.returned (.tuple #[J r5,J e5])) w5)->Calls Tryz.prog 64 #[P_ p,J h,.agg (V_ v.kind v.n v.s (.slice pr nr cr) v.r)] w4 R):=fun R hR=>by
  by_cases h0:mayE M h v=0
  ·refine(HC.out.2 h0).mono ?_;rintro e w5 (⟨hr,rfl,t,F',hT,hW,hg⟩ | ⟨hr,rfl,hb⟩)
   ·obtain⟨vl',rfl⟩:=hT;refine hR _ _ w5 hg.1 (fun w6 r6 e6 h8=>?_) (fun e6 w6 h8=>cO h8)
    rcases h8 with ⟨h8,-⟩ | ⟨-,h8⟩
    ·exact absurd (HE.out.1.trans h0) h8
    rcases h8 with ⟨h8,-⟩ | ⟨-,h8,-⟩ | ⟨-,-,h8,vl2,vals2,G',h9,h10,h11,h12⟩
    ·exact absurd rfl h8
    ·rw [HE.out.2.1]at h8;exact absurd hr h8
    ·rw [HE.out.2.2]at h8;obtain⟨e1,e2⟩:=cz h8;exact⟨e1,e2,Md2.one (t:=bn h v vl') HB4.out (by simpa [em]using hW) hg h9 h10 h11 ⟨vl2,vals2,rfl⟩ (jy h9) ⟨(bo h0).2.1,fun x hx=>(by cases hx),Nat.zero_le _⟩ ⟨HA.out.2.2.1,fA⟩ (fun e=>absurd (show (1:Int)=11 from e) (by decide)) (.cell h v vl' (lq (bo h0).1) (bo h0).2.1 HA.out.2.2.1 (bo h0).2.2) h12⟩
   ·refine hR _ _ w5 (Keeps.of_below hb) (fun w6 r6 e6 h8=>?_) (fun e6 w6 h8=>cO h8)
    rcases h8 with ⟨h8,-⟩ | ⟨-,h8⟩
    ·exact absurd (HE.out.1.trans h0) h8
    rcases h8 with ⟨h8,-⟩ | ⟨-,-,h8,hb6⟩ | ⟨-,h8,-⟩
    ·exact absurd rfl h8
    ·obtain⟨e1,e2⟩:=cz h8;exact⟨e1,e2,Md2.no HB4.out hb hb6⟩
    ·rw [HE.out.2.1]at h8;exact absurd h8 hr
  ·refine(HC.out.1 h0).mono ?_;rintro e w5 ⟨rfl,hb⟩;refine hR _ _ w5 (Keeps.of_below hb) (fun w6 r6 e6 h8=>?_) (fun e6 w6 h8=>cO h8)
   rcases h8 with ⟨-,h8,hb6⟩ | ⟨h8,-⟩
   ·rw [HE.out.1]at h8;obtain⟨e1,e2⟩:=cz h8;exact⟨e1,e2,Md2.no HB4.out hb hb6⟩
   ·exact absurd (HE.out.1.symm.trans h8) h0
 clear hE;refine HP.out _ fun r5 e5 w5 hk5 hm5 hf5=>?_;have H5:Hid (Keeps F w4 w5/\(∀ w6 r6 e6,dA w5 q N G 1 h v (.slice pa v.l.length c) (.returned (.tuple #[J r6,J e6])) w6->r6=r5/\e6=e5/\Md2 w4 p q M N F G w6)/\∀ e6 w6,dA w5 q N G 1 h v (.slice pa v.l.length c) e6 w6->∃ r a,e6=.returned (.tuple #[J r,J a])):=⟨hk5,hm5,hf5⟩;have HX5:Hid _:=H4.out.2.1.keeps hk5 (fun b hb=>HA.out.2.2.2 b (.inl hb)) (fun b h1 h2=>(HA.out.2.1 b h2).1 h1);have b5:=HX5.out.b5;have b12:=HX5.out.b12;clear k1 k2 hl7 hk5 hm5 hf5 HP HC;have k1:w5.cell? ⟨w.heap.size,1,none⟩=some (.int .u8 1):=by rw [ag b5];rfl
 have k2:w5.cell? ⟨w.heap.size,2,none⟩=some (.int .i64 h):=by rw [ag b5];rfl
 have hl12:=aI b12 rfl;clear b5 b12;simp only [au]at hl12
 go_wp2_with fail
 refine(HM8.out w5 H5.out.1).mono ?_;intro e6 w6 h8;obtain⟨r6,a6,rfl⟩:=H5.out.2.2 e6 w6 h8;have hk6:Keeps G w5 w6:=il h8;obtain⟨rfl,rfl,hMd⟩:=H5.out.2.1 w6 r6 a6 h8;have H6:Hid (Md2 w4 p q M N F G w6):=hMd;have HX6:Hid _:=HX5.out.keeps hk6 (fun b hb=>HA.out.2.2.2 b (.inr hb)) (fun b h1 h2=>(HA.out.2.1 b h2).2 h1);clear hk6 hMd h8 H5 HX5 hl12 k1 k2 HM8;have b7:=HX6.out.b7;have hl7:=aI b7 rfl;have hl5:=bH HX6.out.b5;clear b7
 have HPs:Hid (Calls Tryz.prog 88 #[.agg (au v (.slice pr nr cr)),.agg (au v (.slice pa v.l.length c))] w6 fun e w'=>e=.returned (.bool true)/\Bl w6 w'):=(iS v HA.out.2.2.1 v (.slice pr nr cr) (.slice pa v.l.length c) w6 _ _ HX6.out.sl HX6.out.sv).mono fun e w' ⟨B,h1,h2,h3⟩=>by
  rw [h2.2 rfl]at h1;exact⟨h1,h3⟩
 simp only [au]at hl7 hl5 HPs
 go_wp2_with fail
 refine Calls.mono HPs.out ?_;rintro e w7 ⟨rfl,hb7⟩;have H7:Hid (Bl w6 w7):=hb7;have HX7:Hid _:=HX6.out.below hb7;clear hb7 HX6 hl7 hl5 HPs;have b7:=HX7.out.b7;have hl7:=aI b7 rfl;clear b7;simp only [au]at hl7
 go_wp2_with fail
 refine(fV 42 v.kind v.n v.r v.s (.slice pr nr cr) w7 (fun b=>w.heap.size+1≤b/\b<n7) (fun b hb=>by have:=aw HX7.out.b7;have:=hb.2;omega) HX7.out.sp).mono ?_;rintro e w8 ⟨rfl,hk8,-⟩;have HF:Hid (dt w p q M N F G (.returned (.bool true)) w8):=Md2.done rfl H4.out.1 H6.out HA.out.2.2.2 H4.out.2.2 H7.out hk8;have k1:w8.cell? ⟨w.heap.size,1,none⟩=some (.int .u8 1):=by rw [ag (hk8.none HX7.out.b5 (fun e=>by have:=e.1;omega))];rfl
 clear hk8 hl7 HX7 H7 H6
 go_wp2_with fail
 go_ret
 exact HF.out
end
section
def xZ (k:Int):Nat:=if k=2 then 84 else if k=3 then 85 else 66
theorem jb {w:World} {b:Nat} {d k h on ab:Int} {v:Val} {raw:Value} {ty:TypeId} {fr:Nat × Nat} (hg:w.heap[b]? = some (.cells (aU d k h on ab v raw) ty fr)):w.cell? ⟨b,1,none⟩=some (.int .u8 k)/\w.cell? ⟨b,2,none⟩=some (.int .i64 h) :=
 ⟨by rw [ag hg];rfl,by rw [ag hg];rfl⟩
theorem eU:bX 17 27 16 bp:=fun _ _ _ _ _=>rfl
theorem eY:bX 22 27 21 bp:=fun _ _ _ _ _=>rfl
theorem eZ:bX 82 27 12 bp:=fun _ _ _ _ _=>rfl
theorem fd:bX 95 27 7 bp:=fun _ _ _ _ _=>rfl
theorem fg:bX 97 27 96 bp:=fun _ _ _ _ _=>rfl
theorem et:bX 101 27 7 bp:=fun _ _ _ _ _=>rfl
theorem eW:ff 27 7 19 bZ:=fun _ _ _ _ _=>rfl
theorem eB:ff 27 12 22 bZ:=fun _ _ _ _ _=>rfl
theorem eh:ff 27 12 26 bZ:=fun _ _ _ _ _=>rfl
attribute [local go_sem ↓] eU eY eZ fd fg et eW eB eh in
theorem lD {w:World} {p q:Nat} {M N:WM} {F G F1:Nat->Prop} (hB:Both w p q M N F G) {k:Int} (hk:k=2\/k=3\/k=4) (hl:M.last+2≤100000) (d h on ab:Int) (v:Val) (raw:Value) (hS:SlAt w F1 raw v.l) (hF1:∀ b,F1 b->¬ F b/\¬ G b) (hwf:v.wf) (hroom:cp v=true) (hF0:∀ b,F1 b->b<w.heap.size) :
 Calls Tryz.prog 16 #[.pointer (some ⟨p,0,none⟩),.pointer (some ⟨q,0,none⟩),.agg (aU d k h on ab v raw)] w (dt w p q M N F G):=by
 obtain⟨pa,c,rfl⟩:=hS.form;have hFl:∀ b,F b\/G b->b<w.heap.size:=fun b hb=>hb.elim (hB.W.lt b) (hB.R.lt b);have HB:Hid _:=hB;have HA:Hid (M.last+2≤100000/\(∀ b,F1 b->¬ F b/\¬ G b)/\v.wf/\∀ b,F b\/G b->b<w.heap.size):=⟨hl,hF1,hwf,hFl⟩;have H1:Hid (Bl w (w.alloc (.cells (aU d k h on ab v (.slice pa v.l.length c)) 49))/\(w.alloc (.cells (aU d k h on ab v (.slice pa v.l.length c)) 49)).heap[w.heap.size]? = some (.cells (aU d k h on ab v (.slice pa v.l.length c)) 49 (0,0))/\(w.alloc (.cells (aU d k h on ab v (.slice pa v.l.length c)) 49)).heap.size=w.heap.size+1):=⟨(Below.refl _ w).alloc aH _,ai _ _,by simp⟩;have HS:Hid (SlAt w F1 (.slice pa v.l.length c) v.l):=hS;have HRm:Hid (cp v=true):=hroom;have HKk:Hid (k=2\/k=3\/k=4):=hk
 have hk1:(k != 1)=true:=by simpa using (show ¬ k=1 by omega)
 have HF1:Hid (∀ b,F1 b->b<w.heap.size):=hF0;clear hB hl hF1 hwf hFl hS hroom hF0 hk;have e5:aU d k h on ab v (.slice pa v.l.length c)=#[.int .i64 d,.int .u8 k,.int .i64 h,.int .i64 on,.int .u8 ab,.int .u8 v.kind,.int .i64 v.n,.string v.s,.slice pa v.l.length c,.int .i64 v.r]:=rfl;rw [e5];clear e5
 go_enter Tryz.func16,Tryz.ntmps16
 go_upto_region 1 with fail
 revert H1;simp only [aU];generalize w.alloc _=w1;intro H1;have hld1:=bH (d:=d) (k:=k) (h:=h) (on:=on) (ab:=ab) H1.out.2.1
 go_wp2_with fail
 refine(gE v (.slice pa v.l.length c) (HS.out.on H1.out.1)).mono ?_;rintro e w2 ⟨raw',rfl,⟨pr,nr,cr,rfl⟩,hb2,hq2⟩;rw [HRm.out];obtain⟨hsl,hsp,-⟩:=hq2 HRm.out
 have H2:Hid (Bl w w2/\w2.heap[w.heap.size]? = some (.cells (aU d k h on ab v (.slice pa v.l.length c)) 49 (0,0))/\SlAt w2 (fun b=>w.heap.size+1≤b/\b<w2.heap.size) (.slice pr nr cr) v.l/\Sp w2 (fun b=>w.heap.size+1≤b/\b<w2.heap.size) 42 (.slice pr nr cr)/\w.heap.size<w2.heap.size) :=
  ⟨H1.out.1.trans (hb2.mono H1.out.1.size),ae hb2 H1.out.2.1,(SlAt.lt hsl).mono fun b hb=>⟨by have:=H1.out.2.2;omega,hb.2⟩,(Sp.lt hsp).mono fun b hb=>⟨by have:=H1.out.2.2;omega,hb.2⟩,by have:=H1.out.2.2;have:=hb2.size;omega⟩
 clear hsl hsp hq2 hb2 hld1 H1 HRm
 have H3:Hid (∀ w3,w3=(w2.alloc (.cells zV 27)).setRow w2.heap.size (au v (.slice pr nr cr))->Bl w w3/\Bl w2 w3/\w3.heap[w2.heap.size]? = some (.cells (au v (.slice pr nr cr)) 27 (0,0))/\w3.heap.size=w2.heap.size+1):=fun w3 e=>by
  subst e;have hb:Bl w2 ((w2.alloc (.cells zV 27)).setRow w2.heap.size (au v (.slice pr nr cr))):=Below.setRow ((Below.refl _ w2).alloc aH _) aH _;exact⟨H2.out.1.trans (hb.mono H2.out.1.size),hb,ah (ai _ _),by simp [World.setRow]⟩
 have hst7:=az (c':=au v (.slice pr nr cr)) (ai w2 (.cells zV 27)) rfl rfl (by simp [go_sem,au]);simp only [au,zV]at hst7 H3 ⊢
 go_upto_region 4 with fail
 clear hst7;revert H3;generalize hw3:World.setRow _ _ _=w3;intro H3;have H3:Hid (Bl w w3/\Bl w2 w3/\w3.heap[w2.heap.size]? = some (.cells (au v (.slice pr nr cr)) 27 (0,0))/\w3.heap.size=w2.heap.size+1):=H3.out w3 rfl;clear hw3;have hld3:=bH (d:=d) (k:=k) (h:=h) (on:=on) (ab:=ab) (ae H3.out.2.1 H2.out.2.1);have hst12:=az (c':=au v (.slice pa v.l.length c)) (ai w3 (.cells zV 27)) rfl rfl (by simp [go_sem,au])
 have H4a:Hid (∀ w4a,w4a=(w3.alloc (.cells zV 27)).setRow w3.heap.size (au v (.slice pa v.l.length c))->Bl w w4a/\MdW w.heap.size w2.heap.size d k h on ab v v (.slice pa v.l.length c) (.slice pr nr cr) (.slice pa v.l.length c) F1 w4a/\w2.heap.size≤w4a.heap.size):=fun w4a e=>by
  subst e;have hb:Bl w3 ((w3.alloc (.cells zV 27)).setRow w3.heap.size (au v (.slice pa v.l.length c))):=Below.setRow ((Below.refl _ w3).alloc aH _) aH _;have hb2:=H3.out.2.1.trans (hb.mono H3.out.2.1.size);refine⟨H3.out.1.trans (hb.mono H3.out.1.size),⟨H2.out.2.2.2.2,ae hb2 H2.out.2.1,ae hb H3.out.2.2.1,?_,H2.out.2.2.1.on hb2,H2.out.2.2.2.1.on hb2,HS.out.on (H2.out.1.trans (hb2.mono H2.out.1.size)),HS.out.on (H2.out.1.trans (hb2.mono H2.out.1.size))⟩,hb2.size⟩;rw [<- H3.out.2.2.2];exact ah (ai _ _)
 simp only [au,zV]at hst12 H4a hld3 ⊢
 go_upto_region 5 with fail
 clear hst12 hld3;revert H4a;generalize hw4:World.setRow _ _ _=w4a;intro H4a;have H4a:Hid (Bl w w4a/\MdW w.heap.size w2.heap.size d k h on ab v v (.slice pa v.l.length c) (.slice pr nr cr) (.slice pa v.l.length c) F1 w4a/\w2.heap.size≤w4a.heap.size):=H4a.out w4a rfl;have hsz:=H3.out.2.2.2;rw [hsz];clear hw4 H2 H3 HS hsz;generalize w2.heap.size=n7 at *;have b5:=H4a.out.2.1.b5;have k1:w4a.cell? ⟨w.heap.size,1,none⟩=some (.int .u8 k):=by rw [ag b5];rfl
 have hst12b:=az (c':=zV) H4a.out.2.1.b12 rfl rfl (by simp [go_sem,zV])
 have H5:=(show Hid (∀ w4,w4=w4a.setRow (n7+1) zV->Bl w w4/\MdW w.heap.size n7 d k h on ab v ⟨0,0,⟨#[]⟩,[],0⟩ (.slice pa v.l.length c) (.slice pr nr cr) (.slice none 0 0) F1 w4/\n7≤w4.heap.size)from fun w4 e=>by
  obtain⟨h1,h2⟩:=H4a.out.2.1.zero HF1.out e
  exact⟨H4a.out.1.trans h2,h1,Nat.le_trans H4a.out.2.2 h2.size⟩)
 clear b5;simp only [zV]at hst12b H5
 go_upto_region 7 with fail
 clear hst12b k1;revert H5;generalize hw4:World.setRow _ _ _=w4;intro H5;have H4:Hid (Bl w w4/\MdW w.heap.size n7 d k h on ab v ⟨0,0,⟨#[]⟩,[],0⟩ (.slice pa v.l.length c) (.slice pr nr cr) (.slice none 0 0) F1 w4/\n7≤w4.heap.size):=H5.out w4 rfl;clear hw4 H5;have HB4:Hid (Both w4 p q M N F G):=HB.out.below H4.out.1;have hd:=H4.out.2.1
 have HC:Hid ((mayE M h ⟨0,0,⟨#[]⟩,[],0⟩≠0->Calls Tryz.prog (xZ k) #[.pointer (some ⟨p,0,none⟩),.int .i64 h] w4 fun e w'=>e=.returned (.tuple #[.int .i64 0,.int .i64 (mayE M h ⟨0,0,⟨#[]⟩,[],0⟩)])/\Bl w4 w')/\(mayE M h ⟨0,0,⟨#[]⟩,[],0⟩=0->Calls Tryz.prog (xZ k) #[.pointer (some ⟨p,0,none⟩),.int .i64 h] w4 (MadeG w4 p M F h (fun t=>t=lt k h 0 0 0 0 0 0 0 false)))) :=
  ⟨fun h0=>by
   rcases HKk.out with rfl | rfl | rfl
   ·exact yi HB4.out.W h0
   ·exact tF HB4.out.W h0
   ·exact tI HB4.out.W h0,fun h0=>by
   rcases HKk.out with rfl | rfl | rfl
   ·exact zf HB4.out.W (by have:=HA.out.1;omega) (bo h0).1
   ·exact ws HB4.out.W (by have:=HA.out.1;omega) (bo h0).1
   ·exact qi HB4.out.W (by have:=HA.out.1;omega) (bo h0).1⟩
 have HM8:Hid (∀ w',Keeps F w4 w'->Calls Tryz.prog 87 #[.pointer (some ⟨q,0,none⟩),.int .u8 k,.int .i64 h,.agg (au ⟨0,0,⟨#[]⟩,[],0⟩ (.slice none 0 0))] w' (dA w' q N G k h ⟨0,0,⟨#[]⟩,[],0⟩ (.slice none 0 0))):=fun w' hk=>by
  have hR':=HB4.out.R.keeps hk fun b h1 h2=>HB4.out.ap b h2 h1;have hS':SlAt w' F1 (.slice none 0 0) (⟨0,0,⟨#[]⟩,[],0⟩:Val).l:=hd.sd.keeps hk fun b h1 h2=>(HA.out.2.1 b h2).1 h1;have hg:=HB4.out.good (by have:=HA.out.1;omega);have hwf':(⟨0,0,⟨#[]⟩,[],0⟩:Val).wf:=cG;refine qf hR' hg (by have:=HKk.out;omega) ⟨0,0,⟨#[]⟩,[],0⟩ (.slice none 0 0) hS' hwf' fun h0 w1 hb1=>?_;obtain⟨hh,hm,hkn⟩:=bo h0;have hS2:=hS'.on hb1;refine mb (hR'.below hb1) hg (.inr (by have:=HKk.out;omega)) hh ⟨0,0,⟨#[]⟩,[],0⟩ (.slice none 0 0) hS2 (fun b h1=>(HA.out.2.1 b h1).2) hm hkn fun w2 hb2=>?_
  rcases HKk.out with rfl | rfl | rfl
  ·exact Ae (.inl rfl) w2 _ h hh [] none 0 (SlAt.nil w2 (fun _=>False) _ _) fA oe (Nat.zero_le _)
  ·exact qR w2 _ h hh 0 ⟨by decide,by decide⟩
  ·exact Ae (.inr rfl) w2 _ h hh [] none 0 (SlAt.nil w2 (fun _=>False) _ _) fA oe (Nat.zero_le _)
 have hE:mayE N h ⟨0,0,⟨#[]⟩,[],0⟩=mayE M h ⟨0,0,⟨#[]⟩,[],0⟩:=HB.out.al.mayE h ⟨0,0,⟨#[]⟩,[],0⟩;have hMd:N.made=M.made:=HB.out.al.made;have hLs:N.last=M.last:=HB.out.al.last;have HE:Hid (mayE N h ⟨0,0,⟨#[]⟩,[],0⟩=mayE M h ⟨0,0,⟨#[]⟩,[],0⟩/\N.made=M.made/\N.last=M.last):=⟨hE,hMd,hLs⟩;clear hE hMd hLs hd;have b5:=H4.out.2.1.b5;have b7:=H4.out.2.1.b7;have k1:w4.cell? ⟨w.heap.size,1,none⟩=some (.int .u8 k):=by rw [ag b5];rfl
 have k2:w4.cell? ⟨w.heap.size,2,none⟩=some (.int .i64 h):=by rw [ag b5];rfl
 have hl7:=aI b7 rfl;clear b5 b7;simp only [au]at HC HM8 hl7 ⊢
 have HP:Hid (∀ (R:Ending->World->Prop),(∀ r5 e5 w5,Keeps F w4 w5->(∀ w6 r6 e6,dA w5 q N G k h ⟨0,0,⟨#[]⟩,[],0⟩ (.slice none 0 0) (.returned (.tuple #[.int .i64 r6,.int .i64 e6])) w6->r6=r5/\e6=e5/\Md2 w4 p q M N F G w6)->(∀ e6 w6,dA w5 q N G k h ⟨0,0,⟨#[]⟩,[],0⟩ (.slice none 0 0) e6 w6->∃ r a,e6=.returned (.tuple #[.int .i64 r,.int .i64 a]))->R (.returned (.tuple #[.int .i64 r5,.int .i64 e5])) w5)->Calls Tryz.prog (xZ k) #[.pointer (some ⟨p,0,none⟩),.int .i64 h] w4 R):=fun R hR=>by
  by_cases h0:mayE M h ⟨0,0,⟨#[]⟩,[],0⟩=0
  ·refine(HC.out.2 h0).mono ?_;rintro e w5 (⟨hr,rfl,t,F',hT,hW,hg⟩ | ⟨hr,rfl,hb⟩)
   ·subst hT;refine hR _ _ w5 hg.1 (fun w6 r6 e6 h8=>?_) (fun e6 w6 h8=>cO h8)
    rcases h8 with ⟨h8,-⟩ | ⟨-,h8⟩
    ·exact absurd (HE.out.1.trans h0) h8
    rcases h8 with ⟨h8,-⟩ | ⟨-,h8,-⟩ | ⟨-,-,h8,vl2,vals2,G',h9,h10,h11,h12⟩
    ·exact absurd rfl h8
    ·rw [HE.out.2.1]at h8;exact absurd hr h8
    ·rw [HE.out.2.2]at h8;obtain⟨e1,e2⟩:=cz h8;exact⟨e1,e2,Md2.one (t:=lt k h 0 0 0 0 0 0 0 false) HB4.out (by unfold em at hW;rw [if_neg (by show ¬ k=15;have:=HKk.out;omega)]at hW;exact hW) hg h9 h10 h11 ⟨vl2,vals2,rfl⟩ (jy h9) ⟨(bo h0).2.1,fun x hx=>(by cases hx),Nat.zero_le _⟩ ⟨cG,fA⟩ (fun e=>by have e':k=11:=e;have:=HKk.out;omega) (uM (lq (bo h0).1) HKk.out) h12⟩
   ·refine hR _ _ w5 (Keeps.of_below hb) (fun w6 r6 e6 h8=>?_) (fun e6 w6 h8=>cO h8)
    rcases h8 with ⟨h8,-⟩ | ⟨-,h8⟩
    ·exact absurd (HE.out.1.trans h0) h8
    rcases h8 with ⟨h8,-⟩ | ⟨-,-,h8,hb6⟩ | ⟨-,h8,-⟩
    ·exact absurd rfl h8
    ·obtain⟨e1,e2⟩:=cz h8;exact⟨e1,e2,Md2.no HB4.out hb hb6⟩
    ·rw [HE.out.2.1]at h8;exact absurd h8 hr
  ·refine(HC.out.1 h0).mono ?_;rintro e w5 ⟨rfl,hb⟩;refine hR _ _ w5 (Keeps.of_below hb) (fun w6 r6 e6 h8=>?_) (fun e6 w6 h8=>cO h8)
   rcases h8 with ⟨-,h8,hb6⟩ | ⟨h8,-⟩
   ·rw [HE.out.1]at h8;obtain⟨e1,e2⟩:=cz h8;exact⟨e1,e2,Md2.no HB4.out hb hb6⟩
   ·exact absurd (HE.out.1.symm.trans h8) h0
 have HKc:Hid (k=2\/k=3\/k=4):=HKk.out
 rcases HKk.out with rfl | rfl | rfl
 all_goals
  clear HKk HKc HC
  go_wp2_with fail
  refine HP.out _ fun r5 e5 w5 hk5 hm5 hf5=>?_;have H5:Hid _:=And.intro hk5 (And.intro hm5 hf5);have HX5:Hid _:=H4.out.2.1.keeps hk5 (fun b hb=>HA.out.2.2.2 b (.inl hb)) (fun b h1 h2=>(HA.out.2.1 b h2).1 h1);have b5:=HX5.out.b5;have b12:=HX5.out.b12;clear k1 k2 hl7 hk5 hm5 hf5 HP;have k1:=(jb b5).1;have k2:=(jb b5).2;have hl12:=aI b12 rfl;clear b5 b12;simp only [au]at hl12
  go_wp2_with fail
  refine(HM8.out w5 H5.out.1).mono ?_;intro e6 w6 h8;obtain⟨r6,a6,rfl⟩:=H5.out.2.2 e6 w6 h8;have hk6:Keeps G w5 w6:=il h8;obtain⟨rfl,rfl,hMd⟩:=H5.out.2.1 w6 r6 a6 h8;have H6:Hid (Md2 w4 p q M N F G w6):=hMd;have HX6:Hid _:=HX5.out.keeps hk6 (fun b hb=>HA.out.2.2.2 b (.inr hb)) (fun b h1 h2=>(HA.out.2.1 b h2).2 h1);clear hk6 hMd h8 H5 HX5 hl12 k1 k2 HM8;have b7:=HX6.out.b7;have hl7:=aI b7 rfl;have hl5:=bH HX6.out.b5;clear b7
  have HPs:Hid (Calls Tryz.prog 88 #[.agg (au v (.slice pr nr cr)),.agg (au v (.slice pa v.l.length c))] w6 fun e w'=>e=.returned (.bool true)/\Bl w6 w'):=(iS v HA.out.2.2.1 v (.slice pr nr cr) (.slice pa v.l.length c) w6 _ _ HX6.out.sl HX6.out.sv).mono fun e w' ⟨B,h1,h2,h3⟩=>by
   rw [h2.2 rfl]at h1;exact⟨h1,h3⟩
  simp only [au]at hl7 hl5 HPs
  go_wp2_with fail
  refine Calls.mono HPs.out ?_;rintro e w7 ⟨rfl,hb7⟩;have H7:Hid (Bl w6 w7):=hb7;have HX7:Hid _:=HX6.out.below hb7;clear hb7 HX6 hl7 hl5 HPs;have b7:=HX7.out.b7;have hl7:=aI b7 rfl;clear b7;simp only [au]at hl7
  go_wp2_with fail
  refine(fV 42 v.kind v.n v.r v.s (.slice pr nr cr) w7 (fun b=>w.heap.size+1≤b/\b<n7) (fun b hb=>by have:=aw HX7.out.b7;have:=hb.2;omega) HX7.out.sp).mono ?_;rintro e w8 ⟨rfl,hk8,-⟩;have HF:Hid (dt w p q M N F G (.returned (.bool true)) w8):=Md2.done rfl H4.out.1 H6.out HA.out.2.2.2 H4.out.2.2 H7.out hk8;have k1:=(jb (hk8.none HX7.out.b5 (fun e=>by have:=e.1;omega))).1;clear hk8 hl7 HX7 H7 H6
  go_wp2_with fail
  go_ret
  exact HF.out
end
section
abbrev du (h:Int):Th:=lt 10 h 0 0 0 0 0 0 0 false
abbrev nD (h tg:Int):Th:=lt 11 h 0 0 0 0 tg 0 0 false
abbrev nilQ:Val:=⟨0,0,⟨#[]⟩,[],0⟩
theorem bV:ay nilQ=true:=(aZ 0 0 (.inl ⟨rfl,rfl⟩)).2
theorem lg:aM nilQ = []:=(aZ 0 0 (.inl ⟨rfl,rfl⟩)).1
theorem fq (N:WM):knownB N nilQ=true:=by unfold knownB;rw [lg];rfl
theorem fD:aN 16 nilQ = []:=by rw [<- refsV_of bV];exact lg
def dM (w:World) (q:Nat) (N:WM) (G:Nat->Prop) (h:Int) (e:Ending) (w':World):Prop :=
 (mayE N h nilQ≠0/\e=.returned (.tuple #[J 0,J (mayE N h nilQ)])/\Bl w w') \/
 (mayE N h nilQ=0/\¬ N.made.getD h.toNat 0+2≤512/\e=.returned (.tuple #[J 0,J 8])/\Bl w w') \/
 (mayE N h nilQ=0/\N.made.getD h.toNat 0+2≤512/\e=.returned (.tuple #[J (N.last+1),J 0])/\∃ G',IsR w' q ((N.add (du h)).add (nD h (N.last+1))) G'/\Keeps G w w'/\∀ b,G' b->G b\/w.heap.size≤b)
theorem nP {w w':World} {q:Nat} {N:WM} {G:Nat->Prop} {h x:Int} (hx:mayE N h nilQ=x) (h0:x≠0) (hb:Bl w w'):dM w q N G h (.returned (.tuple #[J 0,J x])) w':=.inl ⟨by rw [hx];exact h0,by rw [hx],hb⟩
theorem nX {w:World} {q:Nat} {N:WM} {G:Nat->Prop} {h:Int} (hR:IsR w q (N.add (du h)) G) (hN:RGood N) (hlen:N.things.length+1≤100000) (hlast:N.last+1≤1099511627776) (hh:0≤h/\h<N.made.length) (hroom:N.made.getD h.toNat 0+2≤512)
 (hat:(N.add (du h)).at (N.last+1)=some (du h)) (hno:∀ x ∈ (N.add (du h)).things,x.1≠0/\(x.2.kind=11->x.2.tgt≠N.last+1)) :
 Calls Tryz.prog 15 #[P_ q,.agg (aF (nD h (N.last+1)))] w (MakeR w q (N.add (du h)) G (nD h (N.last+1)) 0):=by
 have hml:(N.add (du h)).made.length=N.made.length:=by show (if (10:Int)=14 then N.made else N.made.set h.toNat (N.made.getD h.toNat 0+1)).length=_;rw [if_neg (by decide),List.length_set]
 have hok:ROk (N.add (du h)):=⟨by show (N.things ++ [_]).length≤_;rw [List.length_append];exact hlen,fun x hx=>by
  rcases List.mem_append.1 (show x ∈ N.things ++ [(N.last+1,du h)]from hx)with hx | hx
  ·exact hN.ok.cell x hx
  ·rw [List.mem_singleton.1 hx]
   exact⟨by rw [bS];simp [go_sem],by show (1:Int)≤10;decide,by show (10:Int)≤255;decide⟩⟩
 have hmd:∀ (i:Nat) (x:Int),(N.add (du h)).made[i]? = some x->0≤x/\x≤512:=fun i x hx=>by
  have hx':(N.made.set h.toNat (N.made.getD h.toNat 0+1))[i]? = some x:=by rw [<- hx];show _=(if (10:Int)=14 then N.made else N.made.set h.toNat (N.made.getD h.toNat 0+1))[i]?;rw [if_neg (by decide)]
  rw [List.getElem?_set]at hx';split at hx'
  ·split at hx'
   ·injection hx' with hx'
    have:0≤N.made.getD h.toNat 0:=by
     rw [List.getD_eq_getElem?_getD]
     cases hg:N.made[h.toNat]? with
     | none=>exact Int.le_refl _
     | some y=>exact(hN.mades _ y hg).1
    omega
   ·cases hx'
  ·exact hN.mades i x hx'
 refine lV (F:=fun _=>False) hR hok.len ⟨by have:=hN.last;show 0≤N.last+1;omega,hlast⟩ hmd (nD h (N.last+1)) (SlAt.nil _ _ _ _) (SlAt.nil _ _ _ _) rfl rfl (bA bV) (fun x hx=>by cases hx) (Nat.zero_le _) (fun b hb=>hb.elim) (by rw [hml];exact hh) (by show (0:Int)≤11/\(11:Int)≤255;decide) (by show (11:Int)≠13/\(11:Int)≠14/\(11:Int)≠15;decide) 0 (fun w' hb=>?_) (fun w' hb=>?_)
 ·rw [bS];exact sB w' _ h (by rw [hml];exact hh) _
 ·obtain⟨q0,hq0⟩:=dJ bV
  exact ru (hR.below hb) hok (nD h (N.last+1)) 0 rfl hat ⟨rfl,rfl⟩ hno [] (Nat.zero_le _) (fun w2 hb2=>by
   have:=di (w:=w2) (F:=fun _=>False) (nD h (N.last+1)) (SlAt.nil _ _ _ _) rfl rfl (by decide) hq0;rw [fD]at this
   exact this) (fun x hx=>by cases hx)
theorem wK {w:World} {q:Nat} {N:WM} {G:Nat->Prop} (hR:IsR w q N G) (hN:RGood N) (hlen:N.things.length+1≤100000) (hlast:N.last+2≤1099511627776) {h:Int}
 (hat:(N.add (du h)).at (N.last+1)=some (du h)) (hno:∀ x ∈ (N.add (du h)).things,x.1≠0/\(x.2.kind=11->x.2.tgt≠N.last+1)) :
 Calls Tryz.prog 87 #[P_ q,U 10,J h,.agg O] w (dM w q N G h):=by
 have HMy:Hid (∀ w',Bl w w'->Calls Tryz.prog 182 #[.agg O] w' fun e w''=>e=.returned (.bool true)/\Bl w' w''):=fun w' hb=>by
  have:=fF (w:=w') (F:=fun _=>False) (v:=nilQ) (raw:=S_) (SlAt.nil _ _ _ _) cG;rw [bV]at this;exact this
 have HNm:Hid (∀ w',Bl w w'->Calls Tryz.prog 183 #[P_ q,.agg O] w' fun e w''=>e=.returned (.bool true)/\Bl w' w''):=fun w' hb=>by
  have:=iV (F:=fun _=>False) (hR.below hb) hN.ok nilQ (S_) (SlAt.nil _ _ _ _) bV;rw [fq]at this;exact this
 have HMk:Hid (0≤h/\h<N.made.length->∀ w',Bl w w'->Calls Tryz.prog 15 #[P_ q,.agg (aF (du h))] w' (MakeR w' q N G (du h) 0)):=fun hh w' hb =>
  mb (F:=fun _=>False) (hR.below hb) hN (.inr (.inr (.inr (.inr rfl)))) hh nilQ (S_) (SlAt.nil _ _ _ _) (fun b hb=>hb.elim) bV (fq N) fun w2 hb2=>tK w2 _ h hh
 have HKp:Hid (0≤h/\h<N.made.length->N.made.getD h.toNat 0+2≤512->∀ w' G',IsR w' q (N.add (du h)) G'->Calls Tryz.prog 15 #[P_ q,.agg (aF (nD h (N.last+1)))] w' (MakeR w' q (N.add (du h)) G' (nD h (N.last+1)) 0)):=fun hh hr w' G' hR' =>
  nX hR' hN hlen (by omega) hh hr hat hno
 have HE:Hid (∀ x,mayE N h nilQ=x ↔ (if 0≤h/\h<N.made.length then 0 else 2)=x):=fun x=>by unfold mayE;rw [bV,fq];rfl
 have HMs:Hid (∀ (i:Nat) (x:Int),N.made[i]? = some x->0≤x/\x≤512):=hN.mades
 have HML:Hid ((N.add (du h)).made.getD h.toNat 0=N.made.getD h.toNat 0+1\/¬ h.toNat<N.made.length):=by
  by_cases hh:h.toNat<N.made.length
  ·left
   show (if (10:Int)=14 then N.made else N.made.set h.toNat (N.made.getD h.toNat 0+1)).getD h.toNat 0=_
   rw [if_neg (by decide)];simp [List.getD_eq_getElem?_getD,hh]
  ·exact .inr hh
 obtain⟨sP,sC,sT,sM,hV⟩:=hR;have HV:Hid (RVw w q N G sP sC sT sM):=hV
 obtain⟨pM,cM,hsM⟩:∃ p c,sM=.slice p N.made.length c:=by
  obtain⟨h1,⟨h2,h0⟩ | ⟨g',cap,cur,h2,-⟩⟩:=hV.rm
  ·exact⟨none,0,by rw [h2,h0]⟩
  ·exact⟨_,_,h2⟩
 subst hsM;have HM:Hid (∀ w',Bl w w'->w'.cell? ⟨q,4,none⟩=some (.slice pM N.made.length cM)):=fun w' hb=>by rw [ag (ae hb HV.out.blk)];rfl
 have H0:Hid (Bl w (w.alloc (.cells O 27))/\(w.alloc (.cells O 27)).heap[w.heap.size]? = some (.cells O 27 (0,0))):=⟨(Below.refl _ w).alloc aH _,ai _ _⟩;clear hV hN hlen hlast hat hno;rw [bS]at HMk HKp
 by_cases h1':h<0
 ·have HR:Hid (dM w q N G h (.returned (.tuple #[J 0,J 2])) (w.alloc (.cells O 27))):=nP ((HE.out 2).2 (if_neg (by omega))) (by decide) H0.out.1;clear HMy HNm HMk HKp HE HMs HML HV HM
  go_enter Tryz.func87,Tryz.ntmps87
  go_wp2_with fail
  go_returns
  exact HR.out
 by_cases h2':h ≥ (N.made.length:Int)
 ·have HR:Hid (dM w q N G h (.returned (.tuple #[J 0,J 2])) (w.alloc (.cells O 27))):=nP ((HE.out 2).2 (if_neg (by omega))) (by decide) H0.out.1;have c4:=HM.out _ H0.out.1;clear HMy HNm HMk HKp HE HMs HML HV HM
  go_enter Tryz.func87,Tryz.ntmps87
  go_wp2_with fail
  go_returns
  exact HR.out
 have HE0:Hid (mayE N h nilQ=0):=(HE.out 0).2 (if_pos ⟨by omega,by omega⟩);obtain⟨j,hj⟩:∃ j:Nat,h=j:=⟨h.toNat,by omega⟩;subst hj;have Hj:Hid (j<N.made.length):=by show _<_;omega
 obtain⟨m,hm⟩:∃ m,N.made[j]? = some m:=⟨_,List.getElem?_eq_getElem Hj.out⟩;have hmr:=HMs.out j m hm;have hgd:N.made.getD j 0=m:=by simp [List.getD_eq_getElem?_getD,hm]
 have HG:Hid (N.made.getD ((j:Int).toNat) 0=m):=by show _=_;rw [Int.toNat_natCast];exact hgd
 obtain⟨g,cM',hs,-,-,hgl⟩:=bP HV.out.rm hm;have hpM:pM=some ⟨g,0,none⟩:=by injection hs
 subst hpM
 have HMm:Hid (∀ w',Bl w w'->w'.cell? ⟨g,j,none⟩=some (.int .i64 m)):=fun w' hb=>by
  obtain⟨g2,c2,e2,h2,-,-⟩:=bP (HV.out.below hb).rm hm;have:g2=g:=by injection e2 with e2;injection e2 with e2;injection e2 with e2;exact e2.symm
  rw [<- this];exact h2
 have hj0:(0:Int)≤(j:Int):=by omega
 have hjl:(j:Int)<(N.made.length:Int):=by omega
 have hw2:wrap64 (m+2)=m+2:=by unfold wrap64;omega
 clear hs hm hgd hgl HMs HE;have c4:=HM.out _ H0.out.1
 go_enter Tryz.func87,Tryz.ntmps87
 go_wp2_with fail
 refine Calls.mono (HMy.out _ H0.out.1) ?_;rintro e w1 ⟨rfl,hb1⟩;have b1:=ae hb1 H0.out.2;obtain⟨⟨a0,a1,a2,a3,a4⟩,-⟩:=ax b1;have HB1:Hid (Bl w w1/\w1.heap[w.heap.size]? = _):=⟨H0.out.1.trans (hb1.mono H0.out.1.size),b1⟩;clear hb1 b1 HMy c4 H0
 go_wp2_with fail
 refine Calls.mono (HNm.out _ HB1.out.1) ?_;rintro e w2 ⟨rfl,hb2⟩;have b2:=ae hb2 HB1.out.2;have HB2:Hid (Bl w w2):=HB1.out.1.trans (hb2.mono HB1.out.1.size);clear hb2 a0 a1 a2 a3 a4 HNm HB1;obtain⟨⟨a0,a1,a2,a3,a4⟩,-⟩:=ax b2;have c4:=HM.out _ HB2.out;have cm:=HMm.out _ HB2.out;clear b2
 by_cases hroom:m+2 > 512
 ·have HR:Hid (dM w q N G j (.returned (.tuple #[J 0,J 8])) w2):=.inr (.inl ⟨HE0.out,by rw [HG.out];omega,rfl,HB2.out⟩);clear HMk HKp HML HV HM
  go_wp2_with fail
  go_returns
  exact HR.out
 have Hroom:Hid (N.made.getD ((j:Int).toNat) 0+2≤512):=by show _≤_;rw [HG.out];omega
 go_wp2_with fail
 refine Calls.mono (HMk.out ⟨by omega,by have:=Hj.out;omega⟩ _ HB2.out) ?_;rintro e w3 hmade
 rcases hmade with ⟨h0,-⟩ | ⟨-,h0,-⟩ | ⟨-,-,rfl,vl',vals',G',hr,hk,hg,n1,n2⟩
 ·exact absurd rfl h0
 ·have h0':¬ N.made.getD ((j:Int).toNat) 0<512:=h0;have:=Hroom.out;exact absurd (show N.made.getD ((j:Int).toNat) 0<512 by omega) h0'
 have e1:vl'=.slice none 0 0:=n1 rfl;have e2:vals'=.slice none 0 0:=n2 rfl;subst e1 e2;have HR3:Hid (IsR w3 q (N.add (du j)) G'/\Keeps G w2 w3/\∀ b,G' b->G b\/w2.heap.size≤b):=⟨hr,hk,hg⟩;clear hr hk hg n1 n2 a0 a1 a2 a3 a4 HMk c4 cm
 go_wp2_with fail
 refine Calls.mono (HKp.out ⟨by omega,by have:=Hj.out;omega⟩ Hroom.out w3 G' HR3.out.1) ?_;rintro e w4 hmade
 rcases hmade with ⟨h0,-⟩ | ⟨-,h0,-⟩ | ⟨-,-,rfl,vl',vals',G2,hr,hk,hg,n1,n2⟩
 ·exact absurd rfl h0
 ·have h0':¬ (N.add (du j)).made.getD ((j:Int).toNat) 0<512:=h0
  rcases HML.out with h | h
  ·rw [h]at h0';have:=Hroom.out;exact absurd (show N.made.getD ((j:Int).toNat) 0+1<512 by omega) h0'
  ·exact absurd Hj.out h
 have e1:vl'=.slice none 0 0:=n1 rfl;have e2:vals'=.slice none 0 0:=n2 rfl;subst e1 e2
 have HR:Hid (dM w q N G j (.returned (.tuple #[J (N.last+1),J 0])) w4):=.inr (.inr ⟨HE0.out,Hroom.out,rfl,G2,hr,((Keeps.of_below (S:=G) HB2.out).trans HR3.out.2.1 (fun _ _ h=>h) (fun _ _ h=>h)).trans hk (fun _ _ h=>h) (fun b hb h=>(HR3.out.2.2 b h).elim id fun h=>by have:=HB2.out.size;omega),fun b hb=>by
  rcases hg b hb with h | h
  ·exact(HR3.out.2.2 b h).imp id fun h=>Nat.le_trans HB2.out.size h
  ·exact .inr (Nat.le_trans HB2.out.size (Nat.le_trans HR3.out.2.1.size h))⟩)
 clear hr hk hg n1 n2 HKp HR3 HML HV HM
 go_wp2_with fail
 go_returns
 exact HR.out
end
end Go.Proofs.YthaliljaglldjaaGreat
