/- Part of the proof. -/
import Derived.Test.YthaliljaglldjaaGreatmBN
import Derived.Test.YthaliljaglldjaaGreatmBR
namespace Go.Proofs.YthaliljaglldjaaGreat
set_option maxHeartbeats 16000000
set_option maxRecDepth 20000
open Go.RowKit Go.ChangeMaps Go.MapKept
section
attribute [local go_sem ↓] eU eY eZ fd fg et eW eB eh in
theorem pn {w:World} {p q:Nat} {M N:WM} {F G F1:Nat->Prop} (hB:Both w p q M N F G) {k:Int} (hk:k≠1/\k≠2/\k≠3/\k≠4/\k≠10) (hl:M.last+2≤100000) (d h on ab:Int) (v:Val) (raw:Value) (hS:SlAt w F1 raw v.l) (hF1:∀ b,F1 b->¬ F b/\¬ G b) (hwf:v.wf) (hroom:cp v=true) (hF0:∀ b,F1 b->b<w.heap.size) :
 Calls Tryz.prog 16 #[P_ p,P_ q,.agg (aU d k h on ab v raw)] w (dt w p q M N F G):=by
 obtain⟨pa,c,rfl⟩:=hS.form;have hFl:∀ b,F b\/G b->b<w.heap.size:=fun b hb=>hb.elim (hB.W.lt b) (hB.R.lt b);have HB:Hid _:=hB;have HA:Hid (M.last+2≤100000/\(∀ b,F1 b->¬ F b/\¬ G b)/\v.wf/\∀ b,F b\/G b->b<w.heap.size):=⟨hl,hF1,hwf,hFl⟩;have H1:Hid (Bl w (w.alloc (.cells (aU d k h on ab v (.slice pa v.l.length c)) 49))/\(w.alloc (.cells (aU d k h on ab v (.slice pa v.l.length c)) 49)).heap[w.heap.size]? = some (.cells (aU d k h on ab v (.slice pa v.l.length c)) 49 (0,0))/\(w.alloc (.cells (aU d k h on ab v (.slice pa v.l.length c)) 49)).heap.size=w.heap.size+1):=⟨(Below.refl _ w).alloc aH _,ai _ _,by simp⟩;have HS:Hid (SlAt w F1 (.slice pa v.l.length c) v.l):=hS;have HRm:Hid (cp v=true):=hroom;have hk1:(k != 1)=true:=by simpa using hk.1
 have c1:(k==1)=false:=by simpa using hk.1
 have c2:(k==2)=false:=by simpa using hk.2.1
 have c3:(k==3)=false:=by simpa using hk.2.2.1
 have c4:(k==4)=false:=by simpa using hk.2.2.2.1
 have c10:(k==10)=false:=by simpa using hk.2.2.2.2
 have HF1:Hid (∀ b,F1 b->b<w.heap.size):=hF0;clear hB hl hF1 hwf hFl hS hroom hF0 hk;have e5:aU d k h on ab v (.slice pa v.l.length c)=#[.int .i64 d,.int .u8 k,.int .i64 h,.int .i64 on,.int .u8 ab,.int .u8 v.kind,.int .i64 v.n,.string v.s,.slice pa v.l.length c,.int .i64 v.r]:=rfl;rw [e5];clear e5
 go_enter Tryz.func16,Tryz.ntmps16
 go_upto_region 1 with fail
 revert H1;simp only [aU];generalize w.alloc _=w1;intro H1;have hld1:=bH (d:=d) (k:=k) (h:=h) (on:=on) (ab:=ab) H1.out.2.1
 go_wp2_with fail
 refine(gE v (.slice pa v.l.length c) (HS.out.on H1.out.1)).mono ?_;rintro e w2 ⟨raw',rfl,⟨pr,nr,cr,rfl⟩,hb2,hq2⟩;rw [HRm.out];obtain⟨hsl,hsp,-⟩:=hq2 HRm.out
 have H2:Hid (Bl w w2/\w2.heap[w.heap.size]? = some (.cells (aU d k h on ab v (.slice pa v.l.length c)) 49 (0,0))/\SlAt w2 (fun b=>w.heap.size+1≤b/\b<w2.heap.size) (.slice pr nr cr) v.l/\Sp w2 (fun b=>w.heap.size+1≤b/\b<w2.heap.size) 42 (.slice pr nr cr)/\w.heap.size<w2.heap.size) :=
  ⟨H1.out.1.trans (hb2.mono H1.out.1.size),ae hb2 H1.out.2.1,(SlAt.lt hsl).mono fun b hb=>⟨by have:=H1.out.2.2;omega,hb.2⟩,(Sp.lt hsp).mono fun b hb=>⟨by have:=H1.out.2.2;omega,hb.2⟩,by have:=H1.out.2.2;have:=hb2.size;omega⟩
 clear hsl hsp hq2 hb2 hld1 H1 HRm
 have H3:Hid (∀ w3,w3=(w2.alloc (.cells zV 27)).setRow w2.heap.size (au v (.slice pr nr cr))->Bl w w3/\Bl w2 w3/\w3.heap[w2.heap.size]? = some (.cells (au v (.slice pr nr cr)) 27 (0,0))/\w3.heap.size=w2.heap.size+1):=fun w3 e=>by
  subst e;have hb:Bl w2 ((w2.alloc (.cells zV 27)).setRow w2.heap.size (au v (.slice pr nr cr))):=Below.setRow ((Below.refl _ w2).alloc aH _) aH _;exact⟨H2.out.1.trans (hb.mono H2.out.1.size),hb,ah (ai _ _),by simp [World.setRow]⟩
 have hst7:=az (c':=au v (.slice pr nr cr)) (ai w2 (.cells zV 27)) rfl rfl (by simp [go_sem,au]);simp only [au,zV]at hst7 H3 ⊢
 go_upto_region 4 with fail
 clear hst7;revert H3;generalize hw3:World.setRow _ _ _=w3;intro H3;have H3:Hid (Bl w w3/\Bl w2 w3/\w3.heap[w2.heap.size]? = some (.cells (au v (.slice pr nr cr)) 27 (0,0))/\w3.heap.size=w2.heap.size+1):=H3.out w3 rfl;clear hw3;have hld3:=bH (d:=d) (k:=k) (h:=h) (on:=on) (ab:=ab) (ae H3.out.2.1 H2.out.2.1);have hst12:=az (c':=au v (.slice pa v.l.length c)) (ai w3 (.cells zV 27)) rfl rfl (by simp [go_sem,au])
 have H4a:Hid (∀ w4a,w4a=(w3.alloc (.cells zV 27)).setRow w3.heap.size (au v (.slice pa v.l.length c))->Bl w w4a/\MdW w.heap.size w2.heap.size d k h on ab v v (.slice pa v.l.length c) (.slice pr nr cr) (.slice pa v.l.length c) F1 w4a/\w2.heap.size≤w4a.heap.size):=fun w4a e=>by
  subst e;have hb:Bl w3 ((w3.alloc (.cells zV 27)).setRow w3.heap.size (au v (.slice pa v.l.length c))):=Below.setRow ((Below.refl _ w3).alloc aH _) aH _;have hb2:=H3.out.2.1.trans (hb.mono H3.out.2.1.size);refine⟨H3.out.1.trans (hb.mono H3.out.1.size),⟨H2.out.2.2.2.2,ae hb2 H2.out.2.1,ae hb H3.out.2.2.1,?_,H2.out.2.2.1.on hb2,H2.out.2.2.2.1.on hb2,HS.out.on (H2.out.1.trans (hb2.mono H2.out.1.size)),HS.out.on (H2.out.1.trans (hb2.mono H2.out.1.size))⟩,hb2.size⟩;rw [<- H3.out.2.2.2];exact ah (ai _ _)
 simp only [au,zV]at hst12 H4a hld3 ⊢
 go_upto_region 5 with fail
 clear hst12 hld3;revert H4a;generalize hw4:World.setRow _ _ _=w4a;intro H4a;have H4a:Hid (Bl w w4a/\MdW w.heap.size w2.heap.size d k h on ab v v (.slice pa v.l.length c) (.slice pr nr cr) (.slice pa v.l.length c) F1 w4a/\w2.heap.size≤w4a.heap.size):=H4a.out w4a rfl;have hsz:=H3.out.2.2.2;rw [hsz];clear hw4 H2 H3 HS hsz;generalize w2.heap.size=n7 at *;have b5:=H4a.out.2.1.b5;have k1:w4a.cell? ⟨w.heap.size,1,none⟩=some (.int .u8 k):=by rw [ag b5];rfl
 have hst12b:=az (c':=zV) H4a.out.2.1.b12 rfl rfl (by simp [go_sem,zV])
 have H5:=(show Hid (∀ w4,w4=w4a.setRow (n7+1) zV->Bl w w4/\MdW w.heap.size n7 d k h on ab v ⟨0,0,⟨#[]⟩,[],0⟩ (.slice pa v.l.length c) (.slice pr nr cr) (S_) F1 w4/\n7≤w4.heap.size)from fun w4 e=>by
  obtain⟨h1,h2⟩:=H4a.out.2.1.zero HF1.out e
  exact⟨H4a.out.1.trans h2,h1,Nat.le_trans H4a.out.2.2 h2.size⟩)
 clear b5;simp only [zV]at hst12b H5
 go_upto_region 7 with fail
 clear hst12b k1;revert H5;generalize hw4:World.setRow _ _ _=w4;intro H5;have H4:Hid (Bl w w4/\MdW w.heap.size n7 d k h on ab v ⟨0,0,⟨#[]⟩,[],0⟩ (.slice pa v.l.length c) (.slice pr nr cr) (S_) F1 w4/\n7≤w4.heap.size):=H5.out w4 rfl;clear hw4 H5;have k1:w4.cell? ⟨w.heap.size,1,none⟩=some (.int .u8 k):=by rw [ag H4.out.2.1.b5];rfl
 have HF:Hid (dt w p q M N F G (.returned (.bool true)) w4):=⟨rfl,M,N,F,G,HB.out.below H4.out.1,.inl ⟨rfl,rfl⟩,Keeps.of_below H4.out.1,fun _ h=>.inl h,by omega,rfl,rfl⟩;clear H4 HB HA HF1
 go_wp2_with fail
 go_ret
 exact HF.out
def StepQ (w:World) (p q:Nat) (M:WM) (F G:Nat->Prop) (w':World):Prop :=
 ∃ M' N' F' G',Bp w' p q M' N' F' G'/\Keeps (fun b=>F b\/G b) w w'/\(∀ b,F' b\/G' b->(F b\/G b)\/w.heap.size≤b)/\M'.last≤M.last+2/\M'.made.length=M.made.length/\M'.parents=M.parents
theorem StepQ.acted {w w':World} {p q:Nat} {M:WM} {F G:Nat->Prop} {e:Ending} (h:mz w p q M F G e w'):e=.returned (.bool true)/\StepQ w p q M F G w':=by
 obtain⟨h0,M',N',F',G',h1,h2,h3,h4,h5,h6⟩:=h;exact⟨h0,M',N',F',G',h1,h2,h3,by omega,h5,h6⟩
theorem tz {w:World} {p q:Nat} {M N:WM} {F G F1:Nat->Prop} (hB:Bp w p q M N F G) (hl:M.last+2≤100000) (d k h on ab:Int) (v:Val) (raw:Value) (hS:SlAt w F1 raw v.l) (hF1:∀ b,F1 b->¬ F b/\¬ G b) (hF0:∀ b,F1 b->b<w.heap.size) (hwf:v.wf) (hroom:cp v=true) :
 Calls Tryz.prog 16 #[P_ p,P_ q,.agg (aU d k h on ab v raw)] w fun e w'=>e=.returned (.bool true)/\StepQ w p q M F G w':=by
 have key:Calls Tryz.prog 16 #[P_ p,P_ q,.agg (aU d k h on ab v raw)] w (dt w p q M N F G):=by
  by_cases hk:k=1\/k=2\/k=3\/k=4\/k=10
  ·exact rS hB.both hl hk d h on ab v raw hS hF1 hF0 hwf hroom
  ·exact pn hB.both (by omega) hl d h on ab v raw hS hF1 hwf hroom hF0
 refine key.mono ?_;rintro e w' ⟨h0,M',N',F',G',hB',hA,hk,hg,h1,h2,h3⟩;obtain⟨hp,hn⟩:=hA.pl hB.pl hB.rn;exact⟨h0,M',N',F',G',⟨hB',hp,hn⟩,hk,hg,h1,h2,h3⟩
theorem qy {w:World} {q:Nat} {N:WM} {G:Nat->Prop} (hR:IsR w q N G) (hN:RGood N) (hh:0<N.made.length) :
 Calls Tryz.prog 15 #[P_ q,.agg (wr 8 0 0 0 0 0 0 0 0 false)] w (MakeR w q N G (lt 8 0 0 0 0 0 0 0 0 false) 0):=by
 obtain⟨q0,hq0⟩:=dJ bV;have hS:SlAt w (fun _=>False) (S_) (nilQ:Val).l:=SlAt.nil _ _ _ _;refine lV hR hN.ok.len hN.last hN.mades (lt 8 0 0 0 0 0 0 0 0 false) hS (SlAt.nil _ (fun _=>False) _ _) rfl rfl (bA bV) (fun x hx=>by cases hx) (Nat.zero_le _) (fun b hb=>hb.elim) ⟨by decide,by show (0:Int)<_;omega⟩ (by show 0≤(8:Int)/\(8:Int)≤255;decide) (by show (8:Int)≠13/\(8:Int)≠14/\(8:Int)≠15;decide) 0 (fun w' hb=>wt w' _ 0 ⟨by decide,by omega⟩ 0 ⟨by decide,by decide⟩ 0 ⟨by decide,by decide⟩) fun w' hb=>?_;refine oF (hR.below hb) hN.ok (lt 8 0 0 0 0 0 0 0 0 false) 0 (by show 0≤(8:Int)/\(8:Int)≤255;decide) (by show (8:Int)≠6/\(8:Int)≠7/\(8:Int)≠9/\(8:Int)≠11/\(8:Int)≠13/\(8:Int)≠14/\(8:Int)≠15/\(8:Int)≠16;decide) (aN 16 nilQ) (by rw [fD];exact Nat.zero_le _) (fun w2 hb2=>di (lt 8 0 0 0 0 0 0 0 0 false) ((hS.on hb).on hb2) rfl rfl (by decide) hq0) fun x hx=>?_;rw [fD]at hx
 cases hx
theorem AJ {w:World} {p q:Nat} {M N:WM} {F G:Nat->Prop} (hB:Bp w p q M N F G) (hl:M.last+2≤100000) :
 Calls Tryz.prog 14 #[P_ p,.agg (wr 8 0 0 0 0 0 0 0 0 false)] w fun e w5=>∃ r n,e=.returned (.tuple #[J r,J n]) /\
  Calls Tryz.prog 15 #[P_ q,.agg (wr 8 0 0 0 0 0 0 0 0 false)] w5 fun e w6=>e=.returned (.tuple #[J r,J n])/\StepQ w p q M F G w6:=by
 have hm0:0<M.made.length:=by have:=hB.both.W.ok.made;omega
 have hh:0≤(0:Int)/\(0:Int)<M.made.length:=by omega
 refine(xB hB.both.W (by omega) hh ⟨by decide,by decide⟩ ⟨by decide,by decide⟩).mono ?_;intro e w5 hm;have hgd:=hB.both.good (by omega);have hmN:N.made=M.made:=hB.both.al.made
 rcases hm.toG with ⟨hr,rfl,t,F',rfl,hW,hg⟩ | ⟨hr,rfl,hb⟩
 ·refine⟨_,_,rfl,?_⟩;have hW':IsW w5 p (M.add (lt 8 0 0 0 0 0 0 0 0 false)) F':=by simpa [em]using hW
  have hR5:=hB.both.R.keeps hg.1 fun b h1 h2=>hB.both.ap b h2 h1;refine(qy hR5 hgd (by rw [hmN];exact hm0)).mono ?_;intro e w6 h8
  rcases h8 with ⟨h8,-⟩ | ⟨-,h8,-⟩ | ⟨-,-,rfl,vl2,vals2,G',h9,h10,h11,h12⟩
  ·exact absurd rfl h8
  ·rw [hmN]at h8;exact absurd hr h8
  ·obtain⟨hB6,hF6,hk6⟩:=hB.both.make2 (t:=lt 8 0 0 0 0 0 0 0 0 false) hW' hg h9 h10 h11 ⟨vl2,vals2,rfl⟩ (jy h9) ⟨bV,fun x hx=>(by cases hx),Nat.zero_le _⟩ ⟨cG,fA⟩ (fun e=>absurd (show (8:Int)=11 from e) (by decide));refine⟨by rw [hB.both.al.last],_,_,_,_,⟨hB6,hB.pl.add (.mint 0),hB.rn.add h12⟩,hk6,hF6,by show M.last+1≤M.last+2;omega,?_,rfl⟩;show (if (8:Int)=14 then M.made else M.made.set (0:Int).toNat (M.made.getD (0:Int).toNat 0+1)).length=M.made.length
   rw [if_neg (by decide),List.length_set]
 ·refine⟨_,_,rfl,?_⟩;refine(qy (hB.both.R.below hb) hgd (by rw [hmN];exact hm0)).mono ?_;intro e w6 h8
  rcases h8 with ⟨h8,-⟩ | ⟨-,-,rfl,hb6⟩ | ⟨-,h8,-⟩
  ·exact absurd rfl h8
  ·have hbb:=hb.trans (hb6.mono hb.size);exact⟨rfl,M,N,F,G,hB.below hbb,Keeps.of_below hbb,fun _ h=>.inl h,by omega,rfl,rfl⟩
  ·rw [hmN]at h8;exact absurd h8 hr
end
section
theorem jf (ρ:Operand->Value) (d:Option Tmp) (a:Operand) (ty:TypeId) (pos:String) (af:Array Edge) (g:Option (Nat × Bool)) :
 execOp ρ { dst:=d,op:=.load 27 a,type:=ty,pos:=pos,after:=af,guard:=g } = bp (ρ a):=rfl
def zU (w4:World) (p n n7 n9 n11:Nat) (d k h on ab:Int) (v:Val) (raw raw':Value) (F1 F:Nat->Prop) (M:WM) (v10:Value) (wx:World):Prop :=
 ∃ c vb,v10=J c/\AcT w4 p n n7 n9 n11 d k h on ab v vb vb raw raw' F1 F M c wx/\vb.wf
attribute [local go_sem ↓] jf aW in
theorem ur {w:World} {p q:Nat} {M N:WM} {F G F1:Nat->Prop} (hB:Bp w p q M N F G) (hl:M.last≤100000) (d k h on ab:Int) (hon:(Lit.int .i64 on).wf=true) (hab:(Lit.int .u8 ab).wf=true) (v:Val) (raw:Value) (hS:SlAt w F1 raw v.l) (hF1:∀ b,F1 b->¬ F b/\¬ G b) (hF0:∀ b,F1 b->b<w.heap.size) (hwf:v.wf) (hroom:cp v=true) :
 Calls Tryz.prog 18 #[.pointer (some ⟨p,0,none⟩),.pointer (some ⟨q,0,none⟩),.agg (aU d k h on ab v raw)] w (mz w p q M F G):=by
 obtain⟨pa,c,rfl⟩:=hS.form;have hFl:∀ b,F b\/G b->b<w.heap.size:=fun b hb=>hb.elim (hB.both.W.lt b) (hB.both.R.lt b);have HB:Hid (Bp w p q M N F G):=hB;have HA:Hid (M.last≤100000/\(∀ b,F1 b->¬ F b/\¬ G b)/\v.wf/\(∀ b,F b\/G b->b<w.heap.size)/\(∀ b,F1 b->b<w.heap.size)/\(Lit.int .i64 on).wf=true/\(Lit.int .u8 ab).wf=true):=⟨hl,hF1,hwf,hFl,hF0,hon,hab⟩;have H1:Hid (Bl w (w.alloc (.cells (aU d k h on ab v (.slice pa v.l.length c)) 49))/\(w.alloc (.cells (aU d k h on ab v (.slice pa v.l.length c)) 49)).heap[w.heap.size]? = some (.cells (aU d k h on ab v (.slice pa v.l.length c)) 49 (0,0))/\(w.alloc (.cells (aU d k h on ab v (.slice pa v.l.length c)) 49)).heap.size=w.heap.size+1):=⟨(Below.refl _ w).alloc aH _,ai _ _,by simp⟩;have HS:Hid (SlAt w F1 (.slice pa v.l.length c) v.l):=hS;have HRm:Hid (cp v=true):=hroom;clear hB hl hF1 hwf hFl hS hroom hF0 hon hab;have e5:aU d k h on ab v (.slice pa v.l.length c)=#[.int .i64 d,.int .u8 k,.int .i64 h,.int .i64 on,.int .u8 ab,.int .u8 v.kind,.int .i64 v.n,.string v.s,.slice pa v.l.length c,.int .i64 v.r]:=rfl;rw [e5];clear e5
 go_enter Tryz.func18,Tryz.ntmps18
 go_upto_region 1 with fail
 revert H1;simp only [aU];generalize w.alloc _=w1;intro H1;have hld1:=bH (d:=d) (k:=k) (h:=h) (on:=on) (ab:=ab) H1.out.2.1
 go_wp2_with fail
 refine(gE v (.slice pa v.l.length c) (HS.out.on H1.out.1)).mono ?_;rintro e w2 ⟨raw',rfl,⟨pr,nr,cr,rfl⟩,hb2,hq2⟩;rw [HRm.out];obtain⟨hsl,hsp,hnl⟩:=hq2 HRm.out
 have H2:Hid (Bl w w2/\w2.heap[w.heap.size]? = some (.cells (aU d k h on ab v (.slice pa v.l.length c)) 49 (0,0))/\SlAt w2 (fun b=>w.heap.size+1≤b/\b<w2.heap.size) (.slice pr nr cr) v.l/\Sp w2 (fun b=>w.heap.size+1≤b/\b<w2.heap.size) 42 (.slice pr nr cr)/\w.heap.size<w2.heap.size/\(v.l = []->(.slice pr nr cr:Value)=.slice none 0 0)) :=
  ⟨H1.out.1.trans (hb2.mono H1.out.1.size),ae hb2 H1.out.2.1,(SlAt.lt hsl).mono fun b hb=>⟨by have:=H1.out.2.2;omega,hb.2⟩,(Sp.lt hsp).mono fun b hb=>⟨by have:=H1.out.2.2;omega,hb.2⟩,by have:=H1.out.2.2;have:=hb2.size;omega,hnl⟩
 clear hsl hsp hnl hq2 hb2 hld1 H1 HRm
 have H3:Hid (∀ w3,w3=(w2.alloc (.cells zV 27)).setRow w2.heap.size (au v (.slice pr nr cr))->Bl w w3/\Bl w2 w3/\w3.heap[w2.heap.size]? = some (.cells (au v (.slice pr nr cr)) 27 (0,0))/\w3.heap.size=w2.heap.size+1):=fun w3 e=>by
  subst e;have hb:Bl w2 ((w2.alloc (.cells zV 27)).setRow w2.heap.size (au v (.slice pr nr cr))):=Below.setRow ((Below.refl _ w2).alloc aH _) aH _;exact⟨H2.out.1.trans (hb.mono H2.out.1.size),hb,ah (ai _ _),by simp [World.setRow]⟩
 have hst7:=az (c':=au v (.slice pr nr cr)) (ai w2 (.cells zV 27)) rfl rfl (by simp [go_sem,au]);simp only [au,zV]at hst7 H3 ⊢
 go_upto_region 2 with fail
 clear hst7;revert H3;generalize hw3:World.setRow _ _ _=w3;intro H3
 replace H3:=(show Hid (Bl w w3/\Bl w2 w3/\w3.heap[w2.heap.size]? = some (.cells (au v (.slice pr nr cr)) 27 (0,0))/\w3.heap.size=w2.heap.size+1)from H3.out w3 rfl)
 clear hw3
 have H9:Hid (∀ wa,wa=w3.alloc (.cells zV 27)->Bl w3 wa/\wa.heap[w3.heap.size]? = some (.cells zV 27 (0,0))/\wa.heap.size=w3.heap.size+1):=fun wa e=>by
  subst e;exact⟨(Below.refl _ w3).alloc aH _,ai _ _,by simp⟩
 simp only [zV]at H9
 go_upto_region 4 with fail
 revert H9;generalize hwa:w3.alloc _=wa;intro H9
 replace H9:=(show Hid (Bl w3 wa/\wa.heap[w3.heap.size]? = some (.cells zV 27 (0,0))/\wa.heap.size=w3.heap.size+1)from H9.out wa rfl)
 clear hwa;have hb2a:=H3.out.2.1.trans (H9.out.1.mono H3.out.2.1.size);have hlda:=bH (d:=d) (k:=k) (h:=h) (on:=on) (ab:=ab) (ae hb2a H2.out.2.1);have hst11:=az (c':=au v (.slice pa v.l.length c)) (ai wa (.cells zV 27)) rfl rfl (by simp [go_sem,au])
 have H4:Hid (∀ w4,w4=(wa.alloc (.cells zV 27)).setRow wa.heap.size (au v (.slice pa v.l.length c))->Bl w w4/\AcW w.heap.size w2.heap.size w3.heap.size wa.heap.size d k h on ab v nilV v (.slice pa v.l.length c) (.slice pr nr cr) (.slice none 0 0) (.slice pa v.l.length c) F1 (fun _=>False) w4/\wa.heap.size<w4.heap.size):=fun w4 e=>by
  subst e;have hb:Bl wa ((wa.alloc (.cells zV 27)).setRow wa.heap.size (au v (.slice pa v.l.length c))):=Below.setRow ((Below.refl _ wa).alloc aH _) aH _;have hb2:=hb2a.trans (hb.mono hb2a.size);have hb3:=H9.out.1.trans (hb.mono H9.out.1.size);have hbb:=H2.out.1.trans (hb2.mono H2.out.1.size);exact⟨hbb,⟨⟨H2.out.2.2.2.2.1,by have:=H3.out.2.2.2;omega,by have:=H9.out.2.2;omega⟩,ae hb2 H2.out.2.1,ae hb3 H3.out.2.2.1,ae hb H9.out.2.1,ah (ai _ _),H2.out.2.2.1.on hb2,H2.out.2.2.2.1.on hb2,HS.out.on hbb,HS.out.on hbb,SlT.nil _ _ _ _,HA.out.2.2.2.2.1,fun b h=>h.elim⟩,by simp [World.setRow]⟩
 have HN:Hid (v.l = []->(.slice pr nr cr:Value)=.slice none 0 0):=H2.out.2.2.2.2.2;clear hb2a;simp only [au,zV]at hst11 H4 hlda ⊢
 go_upto_block 0 with fail
 clear hst11 hlda;revert H4;generalize hw4:World.setRow _ _ _=w4;intro H4
 replace H4:=(show Hid (Bl w w4/\AcW w.heap.size w2.heap.size w3.heap.size wa.heap.size d k h on ab v nilV v (.slice pa v.l.length c) (.slice pr nr cr) (.slice none 0 0) (.slice pa v.l.length c) F1 (fun _=>False) w4/\wa.heap.size<w4.heap.size)from H4.out w4 rfl)
 clear hw4 H2 H3 H9 HS;generalize w2.heap.size=n7 at *;generalize w3.heap.size=n9 at *;generalize wa.heap.size=n11 at *;clear w1 w2 w3 wa;have HB4:Hid (Bp w4 p q M N F G):=HB.out.below H4.out.1;have k0:w4.cell? ⟨w.heap.size,0,none⟩=some (.int .i64 d):=by rw [ag H4.out.2.1.b5];rfl
 have k3:w4.cell? ⟨w.heap.size,3,none⟩=some (.int .i64 on):=by rw [ag H4.out.2.1.b5];rfl
 have k4:w4.cell? ⟨w.heap.size,4,none⟩=some (.int .u8 ab):=by rw [ag H4.out.2.1.b5];rfl
 by_cases hz:¬ (d=1\/ab=1\/ab=2\/ab=4\/ab=8)
 ·have bd:(d==1)=false:=by have:¬ d=1:=fun e=>hz (.inl e);simpa using this
  have b1:(ab==1)=false:=by have:¬ ab=1:=fun e=>hz (.inr (.inl e));simpa using this
  have b2:(ab==2)=false:=by have:¬ ab=2:=fun e=>hz (.inr (.inr (.inl e)));simpa using this
  have b4:(ab==4)=false:=by have:¬ ab=4:=fun e=>hz (.inr (.inr (.inr (.inl e))));simpa using this
  have b8:(ab==8)=false:=by have:¬ ab=8:=fun e=>hz (.inr (.inr (.inr (.inr e))));simpa using this
  have HF:Hid (mz w p q M F G (.returned (.bool true)) w4):=⟨rfl,M,N,F,G,HB4.out,Keeps.of_below H4.out.1,fun _ h=>.inl h,rfl,rfl,rfl⟩;clear hz HB HB4 H4 HA HN k3
  go_wp2_with fail
  go_ret
  exact HF.out
 have HW:Hid (d=1\/ab=1\/ab=2\/ab=4\/ab=8):=Classical.not_not.1 hz;clear hz;have HF1:Hid (∀ b,F b->b<w.heap.size/\¬ F1 b):=fun b hb=>⟨HA.out.2.2.2.1 b (.inl hb),fun h=>(HA.out.2.1 b h).1 hb⟩
 go_cut [10] (fun v10 wx=>zU w4 p w.heap.size n7 n9 n11 d k h on ab v (.slice pa v.l.length c) (.slice pr nr cr) F1 F M v10 wx)
 case first =>
  have b7:=H4.out.2.1.b7;have hl7:=aI b7 rfl;have HP:Hid (∀ w1,Bl w4 w1->∀ a,(Lit.int .u8 a).wf=true->Calls Tryz.prog 90 #[.pointer (some ⟨p,0,none⟩),.int .i64 on,.int .u8 a,.agg (au v (.slice pr nr cr))] w1 (ActPost w1 p F (DoX M (dw M on a v)))):=fun w1 hb a ha=>jQ (HB4.out.both.W.below hb) HB4.out.pl HA.out.2.2.2.2.2.1 ha (H4.out.2.1.sl.on hb) HN.out HA.out.2.2.1;clear b7
  by_cases hd:d=1
  ·have bd:(d==1)=true:=by simpa using hd
   have HD:Hid _:=HP.out w4 br ab HA.out.2.2.2.2.2.2;simp only [au]at HD hl7;clear hd HP
   go_wp2_with fail
   refine Calls.mono HD.out ?_;rintro e w5 ⟨x,pv,cv,c5,M',F',rfl,hX,hk,hW',hF',hS5⟩;have HT:Hid (AcT w4 p w.heap.size n7 n9 n11 d k h on ab v v v (.slice pa v.l.length c) (.slice pr nr cr) F1 F M c5 (w5.setRow n9 (au x (.slice pv x.l.length cv)))):=AcT.act H4.out.2.1 (fun _ h=>h) HF1.out hX hk hW' hF' hS5;have b9:=hk.none H4.out.2.1.b9 (fun h=>by have:=(HF1.out _ h).1;have:=H4.out.2.1.lt;omega);have b5:=hk.none H4.out.2.1.b5 (fun h=>by have:=(HF1.out _ h).1;omega);have b11:=hk.none H4.out.2.1.b11 (fun h=>by have:=(HF1.out _ h).1;have:=H4.out.2.1.lt;omega);obtain⟨xk,xn,xs,xl,xr⟩:=x;have hst9:=az (c':=#[.int .u8 xk,.int .i64 xn,.string xs,.slice pv xl.length cv,.int .i64 xr]) b9 rfl rfl (by simp [go_sem]);simp only [au]at HT hst9 ⊢;clear b9 b5 b11 hX hk hW' hF' hS5 HD hl7 k0 k3 k4
   go_wp2_with fail
   go_meet
   case rel=>exact⟨c5,v,rfl,HT.out,HA.out.2.2.1⟩
  have bd:(d==1)=false:=by simpa using hd
  have hw4:ab=1\/ab=2\/ab=4\/ab=8:=HW.out.resolve_left hd;clear hd HW
  rcases hw4 with rfl | rfl | rfl | rfl
  ·-- get
   have HD:Hid _:=qH (fun y hy=>by have:=(HF1.out y hy).1;have:=H4.out.1.size;omega) (fun w1 hb=>jQ (a:=1) (v:=nilV) (FB:=fun _=>False) (HB4.out.both.W.below hb) HB4.out.pl HA.out.2.2.2.2.2.1 (by decide) (SlAt.nil _ _ _ _) (fun _=>rfl) qw);clear hl7 HP
   go_wp2_with fail
   refine Calls.mono HD.out ?_;rintro e w5 ⟨x,pv,cv,c5,M',F',rfl,hX,hk,hW',hF',hS5⟩;have HT:Hid (AcT w4 p w.heap.size n7 n9 n11 d k h on 1 v nilV v (.slice pa v.l.length c) (.slice pr nr cr) F1 F M c5 (w5.setRow n9 (au x (.slice pv x.l.length cv)))):=AcT.act H4.out.2.1 (fun _ h=>h) HF1.out hX hk hW' hF' hS5;have b9:=hk.none H4.out.2.1.b9 (fun h=>by have:=(HF1.out _ h).1;have:=H4.out.2.1.lt;omega);have b5:=hk.none H4.out.2.1.b5 (fun h=>by have:=(HF1.out _ h).1;omega);have b11:=hk.none H4.out.2.1.b11 (fun h=>by have:=(HF1.out _ h).1;have:=H4.out.2.1.lt;omega);obtain⟨xk,xn,xs,xl,xr⟩:=x;have hst9:=az (c':=#[.int .u8 xk,.int .i64 xn,.string xs,.slice pv xl.length cv,.int .i64 xr]) b9 rfl rfl (by simp [go_sem]);have b11':=(aQ w5 n9 (au ⟨xk,xn,xs,xl,xr⟩ (.slice pv xl.length cv))).none b11 (fun h=>by have h':n11=n9:=h;have:=H4.out.2.1.lt;omega);have hst11:=az (c':=#[.int .u8 0,.int .i64 0,.string ⟨#[]⟩,.slice none 0 0,.int .i64 0]) b11' rfl rfl (by simp [go_sem]);have HT2:Hid (AcT w4 p w.heap.size n7 n9 n11 d k h on 1 v nilV nilV (.slice pa v.l.length c) (.slice pr nr cr) F1 F M c5 ((w5.setRow n9 (au ⟨xk,xn,xs,xl,xr⟩ (.slice pv xl.length cv))).setRow n11 (au nilV (.slice none 0 0)))):=HT.out.by H4.out.2.2 (fun b hb=>(HF1.out b hb).1) (SlAt.nil _ _ _ _);simp only [au]at HT2 hst9 hst11 ⊢;clear HT b9 b5 b11 b11' hX hk hW' hF' hS5 HD k0 k3 k4
   go_wp2_with fail
   go_meet
   case rel=>exact⟨c5,nilV,rfl,HT2.out,qw⟩
  ·-- put
   have HD:Hid _:=pZ (fun w1 hb=>HP.out w1 hb 2 (by decide));simp only [au]at HD hl7;clear HP
   go_wp2_with fail
   refine Calls.mono HD.out ?_;rintro e w5 ⟨x,c5,M',rfl,hX,hA⟩;have HT:Hid (AcT w4 p w.heap.size n7 n9 n11 d k h on 2 v v v (.slice pa v.l.length c) (.slice pr nr cr) F1 F M c5 w5):=AcT.err H4.out.2.1 (fun _ h=>h) HF1.out (.inl rfl) hX hA;clear hX hA HD hl7 k0 k3 k4
   go_wp2_with fail
   go_meet
   case rel=>exact⟨c5,v,rfl,HT.out,HA.out.2.2.1⟩
  ·-- take
   have k6:w4.cell? ⟨w.heap.size,6,none⟩=some (.int .i64 v.n):=by rw [ag H4.out.2.1.b5];rfl
   have HD:Hid _:=iY (m:=v.n) (fun y hy=>by have:=(HF1.out y hy).1;have:=H4.out.1.size;omega) (fun w1 hb=>jQ (a:=4) (v:=cj v.n) (FB:=fun _=>False) (HB4.out.both.W.below hb) HB4.out.pl HA.out.2.2.2.2.2.1 (by decide) (SlAt.nil _ _ _ _) (fun _=>rfl) (qS HA.out.2.2.1.num.1));clear hl7 HP
   go_wp2_with fail
   refine Calls.mono HD.out ?_;rintro e w5 ⟨x,pv,cv,c5,M',F',rfl,hX,hk,hW',hF',hS5⟩;have HT:Hid (AcT w4 p w.heap.size n7 n9 n11 d k h on 4 v (cj v.n) v (.slice pa v.l.length c) (.slice pr nr cr) F1 F M c5 (w5.setRow n9 (au x (.slice pv x.l.length cv)))):=AcT.act H4.out.2.1 (fun _ h=>h) HF1.out hX hk hW' hF' hS5;have b9:=hk.none H4.out.2.1.b9 (fun h=>by have:=(HF1.out _ h).1;have:=H4.out.2.1.lt;omega);have b5:=hk.none H4.out.2.1.b5 (fun h=>by have:=(HF1.out _ h).1;omega);have b11:=hk.none H4.out.2.1.b11 (fun h=>by have:=(HF1.out _ h).1;have:=H4.out.2.1.lt;omega);obtain⟨xk,xn,xs,xl,xr⟩:=x;have hst9:=az (c':=#[.int .u8 xk,.int .i64 xn,.string xs,.slice pv xl.length cv,.int .i64 xr]) b9 rfl rfl (by simp [go_sem]);have b5':=(aQ w5 n9 (au ⟨xk,xn,xs,xl,xr⟩ (.slice pv xl.length cv))).none b5 (fun h=>by have h':w.heap.size=n9:=h;have:=H4.out.2.1.lt;omega);have b11':=(aQ w5 n9 (au ⟨xk,xn,xs,xl,xr⟩ (.slice pv xl.length cv))).none b11 (fun h=>by have h':n11=n9:=h;have:=H4.out.2.1.lt;omega);have k6':(w5.setRow n9 (au ⟨xk,xn,xs,xl,xr⟩ (.slice pv xl.length cv))).cell? ⟨w.heap.size,6,none⟩=some (.int .i64 v.n):=by rw [ag b5'];rfl
   clear k6 b5 b11 b9 b5' hX hk hW' hF' hS5 HD k0 k3 k4;have HT1:Hid _:=And.intro HT.out b11';clear HT b11';simp only [au]at HT1 hst9 k6' ⊢
   go_upto_region 15 with fail
   clear hst9;revert HT1 k6';generalize World.setRow _ _ _=w6;intro k6' HT1
   go_wp2_with fail
   refine(eI w6 v.n).mono ?_;rintro e w7 ⟨rfl,hb7⟩;have hst11:=az (c':=#[.int .u8 1,.int .i64 v.n,.string ⟨#[]⟩,.slice none 0 0,.int .i64 0]) (ae hb7 HT1.out.2) rfl rfl (by simp [go_sem]);have HT2:Hid (AcT w4 p w.heap.size n7 n9 n11 d k h on 4 v (cj v.n) (cj v.n) (.slice pa v.l.length c) (.slice pr nr cr) F1 F M c5 (w7.setRow n11 (au (cj v.n) (.slice none 0 0)))):=(HT1.out.1.below hb7).by H4.out.2.2 (fun b hb=>(HF1.out b hb).1) (SlAt.nil _ _ _ _);simp only [au]at HT2;clear HT1 hb7 k6'
   go_wp2_with fail
   go_meet
   case rel=>exact⟨c5,cj v.n,rfl,HT2.out,qS HA.out.2.2.1.num.1⟩
  ·-- give
   have HD:Hid _:=nM (fun w1 hb=>HP.out w1 hb 8 (by decide));simp only [au]at HD hl7;clear HP
   go_wp2_with fail
   refine Calls.mono HD.out ?_;rintro e w5 ⟨x,c5,M',rfl,hX,hA⟩;have HT:Hid (AcT w4 p w.heap.size n7 n9 n11 d k h on 8 v v v (.slice pa v.l.length c) (.slice pr nr cr) F1 F M c5 w5):=AcT.err H4.out.2.1 (fun _ h=>h) HF1.out (.inr rfl) hX hA;clear hX hA HD hl7 k0 k3 k4
   go_wp2_with fail
   go_meet
   case rel=>exact⟨c5,v,rfl,HT.out,HA.out.2.2.1⟩
 obtain⟨c10,vb,rfl,hT,hwfb⟩:=hcut;clear k0 k3 k4 HW HN;have HT:Hid (AcT w4 p w.heap.size n7 n9 n11 d k h on ab v vb vb (.slice pa v.l.length c) (.slice pr nr cr) F1 F M c10 wc):=hT;obtain⟨rawx,rawb,M',F',hc,m,hW,hs,hk,hF'⟩:=hT;have hl:=mL HB4.out.both.al on ab vb;have hmay:=uW HB4.out.pl on ab vb;have HGl:Hid (∀ b,G b->b<w.heap.size/\¬ F1 b):=fun b hb=>⟨HA.out.2.2.2.1 b (.inr hb),fun h=>(HA.out.2.1 b h).2 hb⟩
 have HR8:=(show Hid _ from yE (HB4.out.both.R.keeps hk (fun b hb hS=>by
  have h1:=HGl.out b hb;have h2:=H4.out.2.1.lt
  rcases hS with h | h | h
  ·exact HB4.out.both.ap b h hb
  ·omega
  ·omega)) (HB4.out.both.good HA.out.1).ok (HB4.out.both.al.keys HB4.out.both.W.ok) HB4.out.pln on ab vb rawb m.sb hwfb)
 have HWs:Hid (IsW wc p M' F'/\vt M (dw M on ab vb).2.2 M'/\Keeps (fun b=>F b\/b=n9\/b=n11) w4 wc/\∀ b,F' b->F b\/w4.heap.size≤b):=⟨hW,hs,hk,hF'⟩;obtain⟨X,hX⟩:∃ X,X=(dw M on ab vb).1:=⟨_,rfl⟩;rw [<- hX]at m hmay;have HD:Hid ((dw N on ab vb).1=X/\(dw N on ab vb).2.1=c10):=⟨by rw [hl.1,hX],by rw [hl.2.1,hc]⟩;have HX:Hid (ay X=true):=hmay
 have hm':=(show AcW w.heap.size n7 n9 n11 d k h on ab v X vb (.slice pa v.l.length c) (.slice pr nr cr) rawx rawb F1 (fun b=>(w4.heap.size≤b/\¬ F' b)/\b<wc.heap.size) wc from { m with
  sx:=m.sx.lt
  fx:=fun b hb=>m.fx b hb.1 })
 have HM:Hid (AcW w.heap.size n7 n9 n11 d k h on ab v X vb (.slice pa v.l.length c) (.slice pr nr cr) rawx rawb F1 (fun b=>(w4.heap.size≤b/\¬ F' b)/\b<wc.heap.size) wc):=hm';obtain⟨pb,cb,rfl⟩:=m.sb.form;obtain⟨px,cx,rfl⟩:=m.sx.form;have hl11:=aI m.b11 rfl;have k3:wc.cell? ⟨w.heap.size,3,none⟩=some (.int .i64 on):=by rw [ag m.b5];rfl
 have k4:wc.cell? ⟨w.heap.size,4,none⟩=some (.int .u8 ab):=by rw [ag m.b5];rfl
 clear hc m hm' hW hs hk hl hmay hX hwfb;simp only [au]at hl11 HR8;refine ‹∀ (a:Act) (w:World),Code.wp Tryz.prog _ _ a w->_› _ _ ?_
 go_wp2_with fail
 refine Calls.mono HR8.out ?_;intro e w6 h8;have hboth:=oK HB4.out HA.out.2.2.2.1 H4.out.2.2 (Nat.lt_trans H4.out.2.1.lt.1 H4.out.2.1.lt.2.1) H4.out.2.1.lt.2.2 HWs.out.1 HWs.out.2.1 HWs.out.2.2.1 HWs.out.2.2.2 h8;obtain⟨N2,G2,hB2,hl2,hmd2,hp2,hk2,hFG2,hG2⟩:=hboth;obtain⟨raw2,N',G',rfl,hs2,-,hk8,-,-⟩:=h8;rw [HD.out.1]at hs2;rw [HD.out.1,HD.out.2];obtain⟨p2,c2,rfl⟩:=hs2.form;have hm6:=HM.out.keeps hk8 (fun b hb=>.inl (HGl.out b hb).1) (fun b hb=>(HGl.out b hb).2) (fun b hb hF=>by have:=(HGl.out b hb).1;have:=hF.1.1;have:=H4.out.1.size;omega);have H6:Hid (AcW w.heap.size n7 n9 n11 d k h on ab v X vb (.slice pa v.l.length c) (.slice pr nr cr) (.slice px X.l.length cx) (.slice pb vb.l.length cb) F1 (fun b=>(w4.heap.size≤b/\¬ F' b)/\b<wc.heap.size) w6/\SlAt w6 (fun b=>wc.heap.size≤b) (.slice p2 X.l.length c2) X.l/\wc.heap.size≤w6.heap.size):=⟨hm6,hs2,hk8.size⟩;have H2:Hid (Bp w6 p q M' N2 F' G2/\M'.last=M.last/\M'.made.length=M.made.length/\M'.parents=M.parents/\Keeps (fun b=>F b\/G b\/b=n9\/b=n11) w4 w6/\(∀ b,F' b\/G2 b->(F b\/G b)\/w4.heap.size≤b)/\∀ b,G2 b->G b\/wc.heap.size≤b):=⟨hB2,hl2,hmd2,hp2,hk2,hFG2,hG2⟩;have hst12:=az (c':=au X (.slice p2 X.l.length c2)) (ai w6 (.cells zV 27)) rfl rfl (by simp [go_sem,au])
 have H7:Hid (∀ w7,w7=(w6.alloc (.cells zV 27)).setRow w6.heap.size (au X (.slice p2 X.l.length c2))->Bl w6 w7/\w7.heap[w6.heap.size]? = some (.cells (au X (.slice p2 X.l.length c2)) 27 (0,0))):=fun w7 e=>by
  subst e;exact⟨Below.setRow ((Below.refl _ w6).alloc aH _) aH _,ah (ai _ _)⟩
 clear hB2 hl2 hmd2 hp2 hk2 hFG2 hG2 hs2 hk8 hm6 HR8 hl11 k3 k4 HD HM HT;obtain⟨n12,hn12⟩:∃ n12,n12=w6.heap.size:=⟨_,rfl⟩;simp only [au,zV]at hst12 H7 ⊢
 go_upto_region 19 with fail
 clear hst12;revert H7;generalize hw7:World.setRow _ _ _=w7;intro H7
 replace H7:=(show Hid (Bl w6 w7/\w7.heap[w6.heap.size]? = some (.cells (au X (.slice p2 X.l.length c2)) 27 (0,0)))from H7.out w7 rfl)
 clear hw7;rw [<- hn12];rw [<- hn12]at H7
 have H8:=(show Hid (AcW w.heap.size n7 n9 n11 d k h on ab v X vb (.slice pa v.l.length c) (.slice pr nr cr) (.slice px X.l.length cx) (.slice pb vb.l.length cb) F1 (fun b=>(w4.heap.size≤b/\¬ F' b)/\b<wc.heap.size) w7/\SlAt w7 (fun b=>wc.heap.size≤b) (.slice p2 X.l.length c2) X.l/\w7.heap[n12]? = some (.cells (au X (.slice p2 X.l.length c2)) 27 (0,0)))from by
  have hb:=H7.out.1
  exact⟨H6.out.1.below hb,H6.out.2.1.on hb,H7.out.2⟩)
 have HB7:Hid (Bl w6 w7):=H7.out.1
 have H67:Hid (wc.heap.size≤w6.heap.size):=H6.out.2.2;clear H6 H7 hn12;have hl9:=aI H8.out.1.b9 rfl;have hl12:=aI H8.out.2.2 rfl;have HRS:Hid _:=uS X (.slice px X.l.length cx) (.slice p2 X.l.length c2) H8.out.1.sx.at H8.out.2.1 HX.out;simp only [au]at hl9 hl12 HRS
 go_wp2_with fail
 refine Calls.mono HRS.out ?_;rintro e w8 ⟨rfl,hb8⟩;have H9:Hid _:=H8.out.1.below hb8;have HB8:Hid (Bl w6 w8):=HB7.out.trans (hb8.mono HB7.out.size);clear hb8 H8 HB7 hl9 hl12 HRS;have hl7:=aI H9.out.b7 rfl;have hl5:=bH H9.out.b5
 have HPs:Hid (Calls Tryz.prog 88 #[.agg (au v (.slice pr nr cr)),.agg (au v (.slice pa v.l.length c))] w8 fun e w'=>e=.returned (.bool true)/\Bl w8 w'):=(iS v HA.out.2.2.1 v (.slice pr nr cr) (.slice pa v.l.length c) w8 _ _ H9.out.sl H9.out.sv).mono fun e w' ⟨B,h1,h2,h3⟩=>by
  rw [h2.2 rfl]at h1;exact⟨h1,h3⟩
 simp only [au]at hl7 hl5 HPs
 go_wp2_with fail
 refine Calls.mono HPs.out ?_;rintro e w9 ⟨rfl,hb9⟩;have H10:Hid _:=H9.out.below hb9;have HB9:Hid (Bl w6 w9):=HB8.out.trans (hb9.mono HB8.out.size);clear hb9 H9 HB8 hl7 hl5 HPs;have hl9:=aI H10.out.b9 rfl;have HS1:Hid _:=fV 17 X.kind X.n X.r X.s (.slice px X.l.length cx) w9 (fun b=>(w4.heap.size≤b/\¬ F' b)/\b<wc.heap.size) (fun b hb=>by have:=hb.2;have:=H67.out;have:=HB9.out.size;omega) (H10.out.sx.sp (bA HX.out));simp only [au]at hl9
 go_wp2_with fail
 refine Calls.mono HS1.out ?_;rintro e w10 ⟨rfl,hk10,-⟩;have b7:=hk10.none H10.out.b7 (fun h=>by have:=h.1.1;have:=H4.out.2.2;have:=H4.out.2.1.lt;omega);have hsp:=H10.out.sp.keeps hk10 (fun b h1 h2=>by have:=h1.1.1;have:=H4.out.2.2;have:=H4.out.2.1.lt;omega)
 have HB10:=(show Hid (Bp w10 p q M' N2 F' G2)from(H2.out.1.below HB9.out).keeps hk10 (fun b h1 h2=>h2.1.2 h1) (fun b h1 h2=>by
  rcases H2.out.2.2.2.2.2.2 b h1 with h | h
  ·have:=(HGl.out b h).1;have:=h2.1.1;have:=H4.out.1.size;omega
  ·have:=h2.2;omega))
 have HK10:Hid (Keeps (fun b=>F b\/G b\/n9≤b) w4 w10):=((H2.out.2.2.2.2.1.mono fun b _ h=>by have:=H4.out.2.1.lt;exact h.elim .inl fun h=>.inr (h.elim .inl fun h=>.inr (by omega))).then_below HB9.out).trans hk10 (fun _ _ h=>h) (fun b _ h=>.inr (.inr (by have:=h.1.1;have:=H4.out.2.2;have:=H4.out.2.1.lt;omega)));have HSz:Hid (w9.heap.size≤w10.heap.size/\n7<w9.heap.size):=⟨hk10.size,aw H10.out.b7⟩;clear hk10 hl9 HS1 H10;have hl7:=aI b7 rfl;have HS2:Hid _:=fV 42 v.kind v.n v.r v.s (.slice pr nr cr) w10 (fun b=>w.heap.size+1≤b/\b<n7) (fun b hb=>by have:=hb.2;have:=HSz.out;omega) hsp;simp only [au]at hl7;clear b7 hsp
 go_wp2_with fail
 refine Calls.mono HS2.out ?_;rintro e w11 ⟨rfl,hk11,-⟩
 have HF:Hid (mz w p q M F G (.returned (.bool true)) w11):=by
  refine⟨rfl,M',N2,F',G2,HB10.out.keeps hk11 (fun b h1 h2=>?_) (fun b h1 h2=>?_),?_,fun b hb=>?_,H2.out.2.1,H2.out.2.2.1,H2.out.2.2.2.1⟩
  ·rcases HWs.out.2.2.2 b h1 with h | h
   ·have:=(HF1.out b h).1;omega
   ·have:=H4.out.2.2;have:=H4.out.2.1.lt;omega
  ·rcases H2.out.2.2.2.2.2.1 b (.inr h1)with (h | h) | h
   ·have:=(HF1.out b h).1;omega
   ·have:=(HGl.out b h).1;omega
   ·have:=H4.out.2.2;have:=H4.out.2.1.lt;omega
  ·have hkk:Keeps (fun b=>F b\/G b\/w.heap.size≤b) w4 w11:=(HK10.out.mono fun b _ h=>h.elim .inl fun h=>.inr (h.elim .inl fun h=>.inr (by have:=H4.out.2.1.lt;omega))).trans hk11 (fun _ _ h=>h) (fun b _ h=>.inr (.inr (by omega)));exact(Below.keeps H4.out.1 hkk).mono fun b hb h=>h.elim .inl fun h=>h.elim .inr fun h=>by omega
  ·exact(H2.out.2.2.2.2.2.1 b hb).imp id fun h=>Nat.le_trans H4.out.1.size h
 clear hk11 HB10 HK10 HSz HS2 H2 HWs
 go_wp2_with fail
 go_ret
 exact HF.out
end
end Go.Proofs.YthaliljaglldjaaGreat
