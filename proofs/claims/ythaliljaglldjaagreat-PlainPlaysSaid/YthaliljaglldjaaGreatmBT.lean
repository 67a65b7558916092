/- Part of the proof. -/
import Derived.Test.YthaliljaglldjaaGreatmBM
import Derived.Deep.Slices
import Derived.Lib.SmallJoins
namespace Go.Proofs.YthaliljaglldjaaGreat
set_option maxHeartbeats 16000000
set_option maxRecDepth 100000
open Go.RowKit Go.ChangeMaps Go.MapKept
section
variable {w:World} {p:Nat} {M:WM} {F:Nat->Prop}
theorem rC (hW:IsW w p M F) {r:Int} (hr:(Lit.int .i64 r).wf=true) (ht:M.at r=none) :
 Calls Tryz.prog 137 #[P_ p,J r] w fun e w'=>e=.returned (.tuple #[.agg (wr 0 0 0 0 0 0 0 0 0 false),J 5])/\Bl w w':=by
 have HW:Hid (IsW w p M F):=hW;have HIs:Hid ((M.at r).isSome=false):=by show _=_;rw [ht];rfl
 clear hW ht
 go_enter Tryz.func137,Tryz.ntmps137
 go_wp2_with fail
 refine(eF (HW.out.below (br.alloc aH _))).mono ?_;rintro e _ ⟨rfl,rfl⟩
 go_wp2_with fail
 refine(gN (HW.out.below (br.alloc aH _)) hr).mono ?_;rw [HIs.out];rintro e _ ⟨rfl,rfl⟩;have B1:=ai w (.cells (wr 0 0 0 0 0 0 0 0 0 false) 46);have HB1:Hid (Bl w (w.alloc (.cells (wr 0 0 0 0 0 0 0 0 0 false) 46))):=br.alloc aH _;have hst:=aS (c':=(wr 0 0 0 0 0 0 0 0 0 false)) B1 rfl rfl (by simp [go_sem]);have G1:Hid _:=ah (c':=(wr 0 0 0 0 0 0 0 0 0 false)) B1;clear B1
 go_wp2_with fail
 exact bodyPost_ret (cQ rfl _ _ _ _ _ rfl G1.out rfl) rfl ⟨rfl,Below.setRow HB1.out aH _⟩
theorem rX (hW:IsW w p M F) {r:Int} (hr:(Lit.int .i64 r).wf=true) (ht:M.at r=none):Calls Tryz.prog 93 #[P_ p,J r] w fun e w'=>e=.returned (.tuple #[.nilIface,J 5])/\Bl w w':=by
 have HW:Hid _:=rC hW hr ht;clear hW ht
 go_enter Tryz.func93,Tryz.ntmps93
 go_wp2_with fail
 refine Calls.mono HW.out ?_;rintro e w1 ⟨rfl,hb1⟩;obtain⟨w2,hst,hb2,-,-⟩:=bh w1 (aF (lt 0 0 0 0 0 0 0 0 0 false)) rfl (by rw [bS];simp [go_sem]);have HB:Hid (Bl w w2):=hb1.trans (hb2.mono hb1.size);simp only [bS]at hst;clear hb1 hb2 HW
 go_wp2_with fail
 go_ret2
 exact⟨rfl,HB.out⟩
def lK (w:World) (x:Int × Int) (e:Ending) (w':World):Prop:=e=.returned (.tuple #[J x.1,J x.2])/\Bl w w'
theorem qq (hW:IsW w p M F) {r n:Int} (hn:(n != 0)=true) (hf:Calls Tryz.prog 93 #[P_ p,J r] w fun e w'=>e=.returned (.tuple #[.nilIface,J n])/\Bl w w'):Calls Tryz.prog 19 #[P_ p,J r] w (lK w (0,n)):=by
 have HT:Hid _:=bT hW;have HF:Hid _:=hf;clear hW hf
 go_enter Tryz.func19,Tryz.ntmps19
 go_wp2_with fail
 refine Calls.mono HT.out ?_;rintro e _ ⟨rfl,rfl⟩
 go_wp2_with fail
 refine Calls.mono HF.out ?_;rintro e w8 ⟨rfl,hb8⟩;have HB:Hid _:=hb8;clear hb8 HT HF
 go_wp2_with fail
 go_ret2
 exact⟨rfl,HB.out⟩
theorem yT (hW:IsW w p M F) {r:Int} (hr:(Lit.int .i64 r).wf=true) {t:Th} (ht:M.at r=some t) (hf:Fair t) (hk:t.kind=1):Calls Tryz.prog 19 #[P_ p,J r] w (lK w (1,0)):=by
 have HT:Hid _:=bT hW;have HF:Hid _:=ed yS hW hr ht hf hk;have as1:∀ (v:Value) (W:World),(Instr.typeAssert (.iface 160 v) 157 160 true).run Tryz.prog W=.ok (.tuple #[v,.bool true]) W:=fun v W=>by kernel_rfl
 clear hW ht hf hr hk
 go_enter Tryz.func19,Tryz.ntmps19
 go_wp2_with fail
 refine Calls.mono HT.out ?_;rintro e _ ⟨rfl,rfl⟩
 go_wp2_with fail
 refine Calls.mono HF.out ?_;rintro e w8 ⟨b,rfl,hfd⟩;obtain⟨vl',vals',hb,-,hbel,hdeep,-⟩:=hfd;have HB:Hid _:=hbel;clear hb hbel hdeep HT HF
 go_wp2_with fail
 go_ret2
 exact⟨rfl,HB.out⟩
theorem zq (hW:IsW w p M F) {r:Int} (hr:(Lit.int .i64 r).wf=true) {t:Th} (ht:M.at r=some t) (hf:Fair t) (hk:t.kind=2):Calls Tryz.prog 19 #[P_ p,J r] w (lK w (t.vs.length,0)):=by
 have HT:Hid _:=bT hW;have HF:Hid _:=ed yO hW hr ht hf hk;have as1:∀ (v:Value) (W:World),(Instr.typeAssert (.iface 161 v) 157 160 true).run Tryz.prog W=.ok (.tuple #[.pointer none,.bool false]) W:=fun v W=>by kernel_rfl
 have as2:∀ (v:Value) (W:World),(Instr.typeAssert (.iface 161 v) 157 161 true).run Tryz.prog W=.ok (.tuple #[v,.bool true]) W:=fun v W=>by kernel_rfl
 clear hW ht hf hr hk
 go_enter Tryz.func19,Tryz.ntmps19
 go_wp2_with fail
 refine Calls.mono HT.out ?_;rintro e _ ⟨rfl,rfl⟩
 go_wp2_with fail
 refine Calls.mono HF.out ?_;rintro e w8 ⟨b,rfl,hfd⟩;obtain⟨vl',vals',hb,-,hbel,hdeep,-⟩:=hfd;have HB:Hid _:=hbel;obtain⟨pa,c,e⟩:=hdeep.vs.form;have c9:w8.cell? ⟨b,9,none⟩=some (.slice pa t.vs.length c):=by rw [ag hb,← e];rfl
 generalize t.vs.length=n at *;clear e;clear hb hbel hdeep HT HF
 go_wp2_with fail
 go_ret2
 exact⟨rfl,HB.out⟩
theorem zc (hW:IsW w p M F) {r:Int} (hr:(Lit.int .i64 r).wf=true) {t:Th} (ht:M.at r=some t) (hf:Fair t) (hk:t.kind=3):Calls Tryz.prog 19 #[P_ p,J r] w (lK w (0,0)):=by
 have HT:Hid _:=bT hW;have HF:Hid _:=ed yP hW hr ht hf hk;have as1:∀ (v:Value) (W:World),(Instr.typeAssert (.iface 248 v) 157 160 true).run Tryz.prog W=.ok (.tuple #[.pointer none,.bool false]) W:=fun v W=>by kernel_rfl
 have as2:∀ (v:Value) (W:World),(Instr.typeAssert (.iface 248 v) 157 161 true).run Tryz.prog W=.ok (.tuple #[.pointer none,.bool false]) W:=fun v W=>by kernel_rfl
 have as3:∀ (v:Value) (W:World),(Instr.typeAssert (.iface 248 v) 157 166 true).run Tryz.prog W=.ok (.tuple #[.pointer none,.bool false]) W:=fun v W=>by kernel_rfl
 have as4:∀ (v:Value) (W:World),(Instr.typeAssert (.iface 248 v) 157 168 true).run Tryz.prog W=.ok (.tuple #[.pointer none,.bool false]) W:=fun v W=>by kernel_rfl
 clear hW ht hf hr hk
 go_enter Tryz.func19,Tryz.ntmps19
 go_wp2_with fail
 refine Calls.mono HT.out ?_;rintro e _ ⟨rfl,rfl⟩
 go_wp2_with fail
 refine Calls.mono HF.out ?_;rintro e w8 ⟨b,rfl,hfd⟩;obtain⟨vl',vals',hb,-,hbel,hdeep,-⟩:=hfd;have HB:Hid _:=hbel;clear hb hbel hdeep HT HF
 go_wp2_with fail
 go_ret2
 exact⟨rfl,HB.out⟩
theorem za (hW:IsW w p M F) {r:Int} (hr:(Lit.int .i64 r).wf=true) {t:Th} (ht:M.at r=some t) (hf:Fair t) (hk:t.kind=4):Calls Tryz.prog 19 #[P_ p,J r] w (lK w (t.vs.length,0)):=by
 have HT:Hid _:=bT hW;have HF:Hid _:=ed yR hW hr ht hf hk;have as1:∀ (v:Value) (W:World),(Instr.typeAssert (.iface 166 v) 157 160 true).run Tryz.prog W=.ok (.tuple #[.pointer none,.bool false]) W:=fun v W=>by kernel_rfl
 have as2:∀ (v:Value) (W:World),(Instr.typeAssert (.iface 166 v) 157 161 true).run Tryz.prog W=.ok (.tuple #[.pointer none,.bool false]) W:=fun v W=>by kernel_rfl
 have as3:∀ (v:Value) (W:World),(Instr.typeAssert (.iface 166 v) 157 166 true).run Tryz.prog W=.ok (.tuple #[v,.bool true]) W:=fun v W=>by kernel_rfl
 clear hW ht hf hr hk
 go_enter Tryz.func19,Tryz.ntmps19
 go_wp2_with fail
 refine Calls.mono HT.out ?_;rintro e _ ⟨rfl,rfl⟩
 go_wp2_with fail
 refine Calls.mono HF.out ?_;rintro e w8 ⟨b,rfl,hfd⟩;obtain⟨vl',vals',hb,-,hbel,hdeep,-⟩:=hfd;have HB:Hid _:=hbel;obtain⟨pa,c,e⟩:=hdeep.vs.form;have c9:w8.cell? ⟨b,9,none⟩=some (.slice pa t.vs.length c):=by rw [ag hb,← e];rfl
 generalize t.vs.length=n at *;clear e;clear hb hbel hdeep HT HF
 go_wp2_with fail
 go_ret2
 exact⟨rfl,HB.out⟩
theorem xW (hW:IsW w p M F) {r:Int} (hr:(Lit.int .i64 r).wf=true) {t:Th} (ht:M.at r=some t) (hf:Fair t) (hk:t.kind=11):Calls Tryz.prog 19 #[P_ p,J r] w (lK w (0,0)):=by
 have HT:Hid _:=bT hW;have HF:Hid _:=ed qZ hW hr ht hf hk;have as1:∀ (v:Value) (W:World),(Instr.typeAssert (.iface 250 v) 157 160 true).run Tryz.prog W=.ok (.tuple #[.pointer none,.bool false]) W:=fun v W=>by kernel_rfl
 have as2:∀ (v:Value) (W:World),(Instr.typeAssert (.iface 250 v) 157 161 true).run Tryz.prog W=.ok (.tuple #[.pointer none,.bool false]) W:=fun v W=>by kernel_rfl
 have as3:∀ (v:Value) (W:World),(Instr.typeAssert (.iface 250 v) 157 166 true).run Tryz.prog W=.ok (.tuple #[.pointer none,.bool false]) W:=fun v W=>by kernel_rfl
 have as4:∀ (v:Value) (W:World),(Instr.typeAssert (.iface 250 v) 157 168 true).run Tryz.prog W=.ok (.tuple #[.pointer none,.bool false]) W:=fun v W=>by kernel_rfl
 clear hW ht hf hr hk
 go_enter Tryz.func19,Tryz.ntmps19
 go_wp2_with fail
 refine Calls.mono HT.out ?_;rintro e _ ⟨rfl,rfl⟩
 go_wp2_with fail
 refine Calls.mono HF.out ?_;rintro e w8 ⟨b,rfl,hfd⟩;obtain⟨vl',vals',hb,-,hbel,hdeep,-⟩:=hfd;have HB:Hid _:=hbel;clear hb hbel hdeep HT HF
 go_wp2_with fail
 go_ret2
 exact⟨rfl,HB.out⟩
theorem wM (hW:IsW w p M F) {r:Int} (hr:(Lit.int .i64 r).wf=true) {t:Th} (ht:M.at r=some t) (hf:Fair t) (hk:t.kind=10) (hfu:t.full=true):Calls Tryz.prog 19 #[P_ p,J r] w (lK w (1,0)):=by
 have HT:Hid _:=bT hW;have HF:Hid _:=ed pI hW hr ht hf hk;have as1:∀ (v:Value) (W:World),(Instr.typeAssert (.iface 168 v) 157 160 true).run Tryz.prog W=.ok (.tuple #[.pointer none,.bool false]) W:=fun v W=>by kernel_rfl
 have as2:∀ (v:Value) (W:World),(Instr.typeAssert (.iface 168 v) 157 161 true).run Tryz.prog W=.ok (.tuple #[.pointer none,.bool false]) W:=fun v W=>by kernel_rfl
 have as3:∀ (v:Value) (W:World),(Instr.typeAssert (.iface 168 v) 157 166 true).run Tryz.prog W=.ok (.tuple #[.pointer none,.bool false]) W:=fun v W=>by kernel_rfl
 have as4:∀ (v:Value) (W:World),(Instr.typeAssert (.iface 168 v) 157 168 true).run Tryz.prog W=.ok (.tuple #[v,.bool true]) W:=fun v W=>by kernel_rfl
 have HU:Hid _:=hfu;clear hW ht hf hr hk hfu
 go_enter Tryz.func19,Tryz.ntmps19
 go_wp2_with fail
 refine Calls.mono HT.out ?_;rintro e _ ⟨rfl,rfl⟩
 go_wp2_with fail
 refine Calls.mono HF.out ?_;rintro e w8 ⟨b,rfl,hfd⟩;obtain⟨vl',vals',hb,-,hbel,hdeep,-⟩:=hfd;have HB:Hid _:=hbel;have c15:w8.cell? ⟨b,15,none⟩=some (.bool true):=by rw [ag hb,← HU.out];rfl
 clear hb hbel hdeep HT HF
 go_wp2_with fail
 go_ret2
 exact⟨rfl,HB.out⟩
theorem uN (hW:IsW w p M F) {r:Int} (hr:(Lit.int .i64 r).wf=true) {t:Th} (ht:M.at r=some t) (hf:Fair t) (hk:t.kind=10) (hfu:t.full=false):Calls Tryz.prog 19 #[P_ p,J r] w (lK w (0,0)):=by
 have HT:Hid _:=bT hW;have HF:Hid _:=ed pI hW hr ht hf hk;have as1:∀ (v:Value) (W:World),(Instr.typeAssert (.iface 168 v) 157 160 true).run Tryz.prog W=.ok (.tuple #[.pointer none,.bool false]) W:=fun v W=>by kernel_rfl
 have as2:∀ (v:Value) (W:World),(Instr.typeAssert (.iface 168 v) 157 161 true).run Tryz.prog W=.ok (.tuple #[.pointer none,.bool false]) W:=fun v W=>by kernel_rfl
 have as3:∀ (v:Value) (W:World),(Instr.typeAssert (.iface 168 v) 157 166 true).run Tryz.prog W=.ok (.tuple #[.pointer none,.bool false]) W:=fun v W=>by kernel_rfl
 have as4:∀ (v:Value) (W:World),(Instr.typeAssert (.iface 168 v) 157 168 true).run Tryz.prog W=.ok (.tuple #[v,.bool true]) W:=fun v W=>by kernel_rfl
 have HU:Hid _:=hfu;clear hW ht hf hr hk hfu
 go_enter Tryz.func19,Tryz.ntmps19
 go_wp2_with fail
 refine Calls.mono HT.out ?_;rintro e _ ⟨rfl,rfl⟩
 go_wp2_with fail
 refine Calls.mono HF.out ?_;rintro e w8 ⟨b,rfl,hfd⟩;obtain⟨vl',vals',hb,-,hbel,hdeep,-⟩:=hfd;have HB:Hid _:=hbel;have c15:w8.cell? ⟨b,15,none⟩=some (.bool false):=by rw [ag hb,← HU.out];rfl
 clear hb hbel hdeep HT HF
 go_wp2_with fail
 go_ret2
 exact⟨rfl,HB.out⟩
theorem rG (hW:IsW w p M F) (hP:PlM M) {r:Int} (hr:(Lit.int .i64 r).wf=true):Calls Tryz.prog 19 #[P_ p,J r] w (lK w (gx M r)):=by
 cases ht:M.at r with
 | none =>
   have e:gx M r=(0,5):=by unfold gx;rw [ht]
   rw [e];exact qq hW (by decide) (rX hW hr ht)
 | some t =>
   have hp:=hP r t ht;have hf:Fair t:=⟨hp.fair.1.1,hp.fair.1.2.1,by have:=hp.fair.1.2.2;omega⟩;have e:gx M r=Aw t:=by unfold gx;rw [ht]
   rw [e]
   cases hp with
   | mint x=>exact qq hW (by decide) (tP hW hr ht hf rfl)
   | cell x v raw h1 h2 h3 h4=>exact yT hW hr ht hf rfl
   | list k x vs vals h0 h1 h2 h3 =>
     rcases h0 with rfl | rfl
     ·exact zq hW hr ht hf rfl
     ·exact za hW hr ht hf rfl
   | tally x n h1 h2=>exact zc hW hr ht hf rfl
   | prom x v raw fu h1 h2 h3 h4 h5 =>
     cases fu with
     | true=>exact wM hW hr ht hf rfl rfl
     | false=>exact uN hW hr ht hf rfl rfl
   | keep x tg h1 h2 h3=>exact xW hW hr ht hf rfl
end
end Go.Proofs.YthaliljaglldjaaGreat
namespace Go.Proofs.YthaliljaglldjaaGreat
set_option maxHeartbeats 16000000
set_option maxRecDepth 100000
open Go.ChangeShapes Go.WideShapes Go.ChangeAt Go.RowKit
section
theorem tX:Tryz.prog.cellsOf 27=5:=by kernel_rfl
theorem oW:Tryz.prog.cellsOf 23=1:=by kernel_rfl
theorem tS:Tryz.prog.cellsOf 2=1:=by kernel_rfl
theorem ua:Tryz.prog.cellsOf 9=1:=by kernel_rfl
theorem vV:Tryz.prog.cellsOf 24=1:=by kernel_rfl
theorem AE:Tryz.prog.cellsOf 25=1:=by kernel_rfl
theorem oc (b o i:Nat):(⟨b,o,none⟩:Addr).add i=⟨b,o+i,none⟩:=by unfold Addr.add;split <;> simp_all
end
section
theorem xq {y:Int} (h:(Lit.int .u8 y).wf=true):0≤y/\y≤255:=by
 simp [Lit.wf,IntKind.min,IntKind.max,IntKind.signed,IntKind.bits]at h;omega
theorem oZ {H:Type} {enc:TypeId × Value->H} {W:World} {base:Nat} {held:Bool} {spare:Nat->Bool}:∀ fuel:Nat,
 (∀ cs x,DataW.trod enc Tryz.prog W base spare held fuel 24 cs=some x->∃ s l,cs = [s]/\SlAt W (fun b=>b<W.heap.size) s l/\(l.length:Int)≤maxLen/\(∃ pa c,s=.slice pa l.length c/\l.length≤c)/\∀ x ∈ l,x.wf) /\
 (∀ cs x,DataW.trod enc Tryz.prog W base spare held fuel 27 cs=some x->∃ v raw,cs=(au v raw).toList/\SlAt W (fun b=>b<W.heap.size) raw v.l/\v.wf):=by
 intro fuel
 induction fuel with
 | zero=>exact⟨fun cs x h=>by simp [DataW.trod]at h,fun cs x h=>by simp [DataW.trod]at h⟩
 | succ n ih =>
   refine⟨fun cs x h=>?_,fun cs x h=>?_⟩
   ·rcases DataW.trod_slice Tryz.underlying24 h with ⟨rfl,-⟩ | ⟨a,len,cap,elems,rest,m,hm,rfl,rfl,hb,hl,hc,hlen,hel,-,-⟩
    ·exact⟨_,[],rfl,SlAt.nil _ _ _ _,by simp [maxLen],⟨_,_,rfl,aH⟩,fun x hx=>(by cases hx)⟩
    ·cases hm
     have each:∀ i,i<len->∃ v raw,(SlAt W (fun b=>b<W.heap.size) raw v.l/\v.wf)/\∀ k,k<5->W.cell? ((a.add (i * 5)).add k)=(au v raw)[k]?:=fun i hi=>by
      have h1:=hel i hi;rw [List.getElem?_eq_getElem (by omega),Option.bind_eq_some_iff]at h1;obtain⟨cs',h2,h3⟩:=h1;obtain⟨v,raw,rfl,hS⟩:=ih.2 _ _ h3;rw [tX]at h2;obtain⟨-,-,h4⟩:=World.cells?_some h2;exact⟨v,raw,hS,fun k hk=>(h4 k hk).trans (by simp)⟩
     by_cases h0:len=0
     ·subst h0;exact⟨_,[],rfl,SlAt.nil _ _ _ _,by simp,⟨_,_,rfl,Nat.zero_le _⟩,fun x hx=>(by cases hx)⟩
     obtain⟨b,o,rfl⟩:∃ b o,a=⟨b,o,none⟩:=by
      obtain⟨v,raw,-,h1⟩:=each 0 (by omega);have c0:W.cell? ((a.add (0 * 5)).add 0)=some (.int .u8 v.kind):=h1 0 (by omega);obtain⟨b,o,sp⟩:=a;have hs:sp=none:=by simpa [Addr.add]using World.cell?_spot c0
      exact⟨b,o,by rw [hs]⟩
     have key:∀ i,∃ p:Val × Value,i<len->(SlAt W (fun b=>b<W.heap.size) p.2 p.1.l/\p.1.wf)/\∀ k,k<5->W.cell? ⟨b,o+5 * i+k,none⟩=(au p.1 p.2)[k]?:=fun i=>by
      by_cases hi:i<len
      ·obtain⟨v,raw,h1,h2⟩:=each i hi;refine⟨(v,raw),fun _=>⟨h1,fun k hk=>?_⟩⟩;have:=h2 k hk;rw [oc,oc,Nat.mul_comm i 5]at this;exact this
      ·exact⟨(⟨0,0,⟨#[]⟩,[],0⟩,undef),fun h=>absurd h hi⟩
     obtain⟨f,hf⟩:=Classical.axiomOfChoice key
     have hS:SlAt W (fun b=>b<W.heap.size) (.slice (some ⟨b,o,none⟩) ((List.range len).map fun i=>(f i).1).length cap) ((List.range len).map fun i=>(f i).1):=by
      refine SlAt.mk _ _ _ (fun i=>(f i).2) ⟨by simp;exact hl,fun h=>by cases h⟩ (fun i v hv=>?_) (fun i v hv=>?_)
      ·have hi:=ji hv;simp only [List.length_map,List.length_range]at hi
       have hv':v=(f i).1:=by
        simp [List.getElem?_map,List.getElem?_range hi]at hv;exact hv.symm
       subst hv';obtain⟨h1,h2⟩:=hf i hi;have c0:=h2 0 (by omega);exact⟨b,o,rfl,World.block_lt_of_cell? _ ⟨b,o+5 * i+0,none⟩ c0,c0,h2 1 (by omega),h2 2 (by omega),h2 3 (by omega),h2 4 (by omega)⟩
      ·have hi:=ji hv;simp only [List.length_map,List.length_range]at hi
       have hv':v=(f i).1:=by
        simp [List.getElem?_map,List.getElem?_range hi]at hv;exact hv.symm
       subst hv';exact(hf i hi).1.1
     have e:((List.range len).map fun i=>(f i).1).length=len:=by simp
     rw [e]at hS
     exact⟨.slice (some ⟨b,o,none⟩) len cap,_,rfl,hS,by rw [e];omega,⟨_,_,by rw [e],by rw [e];exact hl⟩,fun x hx=>by
      simp only [List.mem_map,List.mem_range]at hx;obtain⟨i,hi,rfl⟩:=hx
      exact(hf i hi).1.2⟩
   ·obtain⟨xs,m,hm,rfl,hlen,hxs,hfs⟩:=DataW.trod_struct Tryz.underlying27 h
    cases hm
    rw [tX]at hlen
    match cs,hlen with
    | [c0,c1,c2,c3,c4],_ =>
      have hx:xs.length=5:=hxs
      have g0:DataW.trod enc Tryz.prog W base spare held n 23 [c0]=some (xs[0]'(by omega)):=by
       have g:=hfs 0 _ rfl;rw [List.getElem?_eq_getElem (by omega)]at g;rw [<- g];show _=DataW.trod enc Tryz.prog W base spare held n 23 ([c0,c1,c2,c3,c4].take (Tryz.prog.cellsOf 23));rw [oW];rfl
      have g1:DataW.trod enc Tryz.prog W base spare held n 2 [c1]=some (xs[1]'(by omega)):=by
       have g:=hfs 1 _ rfl;rw [List.getElem?_eq_getElem (by omega)]at g;rw [<- g];show _=DataW.trod enc Tryz.prog W base spare held n 2 ([c1,c2,c3,c4].take (Tryz.prog.cellsOf 2));rw [tS];rfl
      have g2:DataW.trod enc Tryz.prog W base spare held n 9 [c2]=some (xs[2]'(by omega)):=by
       have g:=hfs 2 _ rfl;rw [List.getElem?_eq_getElem (by omega)]at g;rw [<- g];show _=DataW.trod enc Tryz.prog W base spare held n 9 ([c2,c3,c4].take (Tryz.prog.cellsOf 9));rw [ua];rfl
      have g3:DataW.trod enc Tryz.prog W base spare held n 24 [c3]=some (xs[3]'(by omega)):=by
       have g:=hfs 3 _ rfl;rw [List.getElem?_eq_getElem (by omega)]at g;rw [<- g];show _=DataW.trod enc Tryz.prog W base spare held n 24 ([c3,c4].take (Tryz.prog.cellsOf 24));rw [vV];rfl
      have g4:DataW.trod enc Tryz.prog W base spare held n 25 [c4]=some (xs[4]'(by omega)):=by
       have g:=hfs 4 _ rfl;rw [List.getElem?_eq_getElem (by omega)]at g;rw [<- g];show _=DataW.trod enc Tryz.prog W base spare held n 25 ([c4].take (Tryz.prog.cellsOf 25));rw [AE];rfl
      obtain⟨k,e0,-,wk⟩:=DataW.trod_int Tryz.underlying23 g0;obtain⟨m,e1,-,wm⟩:=DataW.trod_int Tryz.underlying2 g1;obtain⟨s,e2,-,-⟩:=DataW.trod_string Tryz.underlying9 g2;obtain⟨raw,l,e3,hS,hln,-,hwf⟩:=ih.1 _ _ g3;obtain⟨r,e4,-,wr⟩:=DataW.trod_int Tryz.underlying25 g4
      cases e0;cases e1;cases e2;cases e3;cases e4
      exact⟨⟨k,m,s,l,r⟩,_,rfl,hS,.mk _ _ _ _ _ (xq wk) hln hwf ⟨wm,wr⟩⟩
end
end Go.Proofs.YthaliljaglldjaaGreat
namespace Go.Proofs.YthaliljaglldjaaGreat
set_option maxHeartbeats 16000000
set_option maxRecDepth 100000
open Go.ChangeShapes Go.WideShapes Go.ChangeAt Go.RowKit Go.Joins
section
structure St8 where
 d:Int
 k:Int
 h:Int
 on:Int
 ab:Int
 v:Val
 raw:Value
instance:Inhabited St8:=⟨⟨0,0,0,0,0,⟨0,0,⟨#[]⟩,[],0⟩,undef⟩⟩
abbrev qY (t:St8):List Value:=(aU t.d t.k t.h t.on t.ab t.v t.raw).toList
def St8.ok (W:World) (t:St8):Prop:=SlAt W (fun b=>b<W.heap.size) t.raw t.v.l/\t.v.wf/\(Lit.int .i64 t.on).wf=true/\(Lit.int .u8 t.ab).wf=true
def StA8 (w:World) (sa:Option Addr) (ts:List St8):Prop:=ts = []\/∃ b o,sa=some ⟨b,o,none⟩/\b<w.heap.size/\∀ (j:Nat) (t:St8),ts[j]? = some t->w.rangeAt b (o+j * 10) (qY t)
theorem StA8.at {w:World} {sa:Option Addr} {ts:List St8} (h:StA8 w sa ts) {j:Nat} {t:St8} (ht:ts[j]? = some t):∃ b o,sa=some ⟨b,o,none⟩/\∀ w',Bl w w'->w'.rangeAt b (o+j * 10) (qY t):=by
 rcases h with rfl | ⟨b,o,h1,h2,h3⟩
 ·cases ht
 ·exact⟨b,o,h1,fun w' hb i v hv=>(hb.cell (p:=⟨b,o+j * 10+i,none⟩) h2).trans (h3 j t ht i v hv)⟩
theorem kX:Tryz.prog.cellsOf 49=10:=by kernel_rfl
theorem wD:Tryz.prog.cellsOf 3=1:=by kernel_rfl
theorem sN:Tryz.prog.cellsOf 22=1:=by kernel_rfl
theorem tw:Tryz.prog.cellsOf 35=1:=by kernel_rfl
theorem vQ:Tryz.prog.cellsOf 25=1:=by kernel_rfl
theorem tB:Tryz.prog.cellsOf 42=1:=by kernel_rfl
theorem rO:Tryz.prog.cellsOf 27=5:=by kernel_rfl
theorem tc {H:Type} {enc:TypeId × Value->H} {W:World} {base:Nat} {held:Bool} {spare:Nat->Bool} {n:Nat} {cs:List Value} {x:DataW H × List MemPlace} (h:DataW.trod enc Tryz.prog W base spare held n 49 cs=some x):∃ t:St8,cs=qY t/\t.ok W:=by
 cases n with
 | zero=>simp [DataW.trod]at h
 | succ n =>
   obtain⟨xs,m,hm,rfl,hlen,hxs,hfs⟩:=DataW.trod_struct Tryz.underlying49 h
   cases hm
   rw [kX]at hlen
   match cs,hlen with
   | [c0,c1,c2,c3,c4,c5,c6,c7,c8,c9],_ =>
     have hx:xs.length=6:=hxs
     have g0:DataW.trod enc Tryz.prog W base spare held n 3 [c0]=some (xs[0]'(by omega)):=by
      have g:=hfs 0 _ rfl;rw [List.getElem?_eq_getElem (by omega)]at g;rw [<- g];show _=DataW.trod enc Tryz.prog W base spare held n 3 ([c0,c1,c2,c3,c4,c5,c6,c7,c8,c9].take (Tryz.prog.cellsOf 3));rw [wD];rfl
     have g1:DataW.trod enc Tryz.prog W base spare held n 22 [c1]=some (xs[1]'(by omega)):=by
      have g:=hfs 1 _ rfl;rw [List.getElem?_eq_getElem (by omega)]at g;rw [<- g];show _=DataW.trod enc Tryz.prog W base spare held n 22 ([c1,c2,c3,c4,c5,c6,c7,c8,c9].take (Tryz.prog.cellsOf 22));rw [sN];rfl
     have g2:DataW.trod enc Tryz.prog W base spare held n 35 [c2]=some (xs[2]'(by omega)):=by
      have g:=hfs 2 _ rfl;rw [List.getElem?_eq_getElem (by omega)]at g;rw [<- g];show _=DataW.trod enc Tryz.prog W base spare held n 35 ([c2,c3,c4,c5,c6,c7,c8,c9].take (Tryz.prog.cellsOf 35));rw [tw];rfl
     have g3:DataW.trod enc Tryz.prog W base spare held n 25 [c3]=some (xs[3]'(by omega)):=by
      have g:=hfs 3 _ rfl;rw [List.getElem?_eq_getElem (by omega)]at g;rw [<- g];show _=DataW.trod enc Tryz.prog W base spare held n 25 ([c3,c4,c5,c6,c7,c8,c9].take (Tryz.prog.cellsOf 25));rw [vQ];rfl
     have g4:DataW.trod enc Tryz.prog W base spare held n 42 [c4]=some (xs[4]'(by omega)):=by
      have g:=hfs 4 _ rfl;rw [List.getElem?_eq_getElem (by omega)]at g;rw [<- g];show _=DataW.trod enc Tryz.prog W base spare held n 42 ([c4,c5,c6,c7,c8,c9].take (Tryz.prog.cellsOf 42));rw [tB];rfl
     have g5:DataW.trod enc Tryz.prog W base spare held n 27 [c5,c6,c7,c8,c9]=some (xs[5]'(by omega)):=by
      have g:=hfs 5 _ rfl;rw [List.getElem?_eq_getElem (by omega)]at g;rw [<- g];show _=DataW.trod enc Tryz.prog W base spare held n 27 ([c5,c6,c7,c8,c9].take (Tryz.prog.cellsOf 27));rw [rO];rfl
     obtain⟨d,e0,-,-⟩:=DataW.trod_int Tryz.underlying3 g0;obtain⟨k,e1,-,-⟩:=DataW.trod_int Tryz.underlying22 g1;obtain⟨hm,e2,-,-⟩:=DataW.trod_int Tryz.underlying35 g2;obtain⟨on,e3,-,w3⟩:=DataW.trod_int Tryz.underlying25 g3;obtain⟨ab,e4,-,w4⟩:=DataW.trod_int Tryz.underlying42 g4;obtain⟨v,raw,e5,hS,hwf⟩:=(oZ n).2 _ _ g5
     cases e0;cases e1;cases e2;cases e3;cases e4
     exact⟨⟨d,k,hm,on,ab,v,raw⟩,by show _ :: _ :: _ :: _ :: _ :: _=_;rw [e5];rfl,hS,hwf,w3,w4⟩
theorem open_sts8 {H:Type} {enc:TypeId × Value->H} {W:World} {base:Nat} {held:Bool} {r:Reach} {b0:Nat} {v:Value} (hval:Value.okWide Tryz.prog W r b0 52 v) {d:DataW H} {ps:List MemPlace} (hd:DataW.Trod enc Tryz.prog W base (fun _=>true) held 52 v d ps) :
 ∃ (pa:Option Addr) (c:Nat) (ts:List St8),v=.slice pa ts.length c/\(∀ t ∈ ts,t.ok W)/\StA8 W pa ts:=by
 obtain⟨fuel,hf⟩:=hd;obtain⟨a0,len,cap,rfl⟩:=okWide_slice Tryz.underlying52 hval
 rcases Go.Deep.open_slice Tryz.underlying52 hf with ⟨hcs,-⟩ | ⟨a,len',cap',m,n,D,Pl,hcs,-,hl,-,hm,-,hx⟩
 ·simp [Value.cells]at hcs;obtain⟨rfl,rfl,rfl⟩:=hcs;exact⟨none,0,[],rfl,by simp,.inl rfl⟩
 ·simp [Value.cells]at hcs;obtain⟨rfl,rfl,rfl⟩:=hcs;simp only [if_true]at hm;subst hm
  have each:∀ i,i<len->∃ q:St8,(∀ j v,(qY q)[j]? = some v->W.cell? ((a.add (i * 10)).add j)=some v)/\q.ok W:=by
   intro i hi;obtain⟨cs',h1,h2⟩:=hx i (by omega);rw [kX]at h1;obtain⟨_,hlen,hcell⟩:=World.cells?_some h1;obtain⟨q,rfl,w1⟩:=tc h2;refine⟨q,fun j v hj=>?_,w1⟩;rw [hcell j (by have:=ji hj;rwa [hlen]at this)];exact hj
  obtain⟨q,hq⟩:=Go.Deep.choose_lt each;refine⟨some a,m,(List.range len).map q,by simp,fun t ht=>?_,?_⟩
  ·obtain⟨i,hi,rfl⟩:=List.mem_map.1 ht;exact(hq i (List.mem_range.1 hi)).2
  ·by_cases h0:len=0
   ·subst h0;exact .inl rfl
   ·right
    have c0:=(hq 0 (by omega)).1 0 (J (q 0).d) rfl;obtain⟨b,off,spot⟩:=a;have hspot:spot=none:=by simpa [Addr.add]using World.cell?_spot c0
    subst hspot;refine⟨b,off,rfl,?_,fun j t hj=>?_⟩
    ·have:=World.block_lt_of_cell? _ _ c0
     simpa [Addr.add]using this
    ·rw [List.getElem?_map,Option.map_eq_some_iff]at hj;obtain⟨i,hi,rfl⟩:=hj
     have hi':j<len:=by
      have:=ji hi
      simpa using this
     rw [List.getElem?_range hi']at hi
     cases hi
     intro l v hv;have:=(hq j hi').1 l v hv;rw [Addr.add_mid,Addr.add_mid]at this;exact this
end
end Go.Proofs.YthaliljaglldjaaGreat
