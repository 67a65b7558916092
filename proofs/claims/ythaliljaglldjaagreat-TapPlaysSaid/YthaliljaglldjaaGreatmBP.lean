/- Part of the proof. -/
import Derived.Test.YthaliljaglldjaaGreatmBO
import Derived.Maps.AppendAt
import Derived.Test.YthaliljaglldjaaGreatmBN
namespace Go.Proofs.YthaliljaglldjaaGreat
set_option maxHeartbeats 16000000
set_option maxRecDepth 100000
open Go.RowKit Go.ChangeMaps Go.MapKept
section
theorem Pass_W {w:World} {p:Nat} {M:WM} {F:Nat->Prop} (hW:IsW w p M F) (hT:TW M) {r:Int} {l:List Int} (hl:WayIs M r l) {t0:Th} (hr:M.at r=some t0) :
 Calls Tryz.prog 115 #[.pointer (some ⟨p,0,none⟩),.int .i64 r] w fun e w'=>e=.returned (.int .i64 0)/\IsW w' p (M.pass l) F/\Keeps F w w':=by
 have hmf:∀ (fn:Fn) (first cap:Array Value) (w:World),(Instr.makeFunc fn first cap).run Tryz.prog w=.ok (.func fn first cap) w:=fun _ _ _ _=>rfl;have HP:=(show Hid _ from walkPass_W hW hT hl hr);clear hW hT hl hr
 go_enter Tryz.func115,Tryz.ntmps115
 go_wp2_with fail
 refine Calls.mono HP.out ?_;rintro e w1 ⟨rfl,h1,h2⟩;have H1:=(show Hid _ from And.intro h1 h2);clear h1 h2
 go_wp2_with fail
 go_ret
 exact⟨rfl,H1.out.1,H1.out.2⟩
theorem append_refT {w:World} {ops:Array Oper} {rest:List Oper} {o:Oper} {a:Act} {Q:Exit->Act->World->Prop} (hgd:o.guard=none) (s x:Operand)
 (ho:o.op=.call { callee:=.builtin .append,args:=#[s,x],argTypes:=#[77,77] }) (base:Nat)
 (v:Value) (l:List Int) (n:Nat) (hs:a.eval s=v) (hown:Hid (w.ownsRow base 25 1 v n (l.map (Value.int .i64)))) (y:Int) (hx:a.eval x=.slice (some ⟨w.heap.size,0,none⟩) 1 1)
 (hn:Hid ((n:Int)≤1099511627776)) (hbase:Hid (base≤w.heap.size))
 (h:∀ v' w',Hid (w'.ownsRow base 25 1 v' (n+1) ((l ++ [y]).map (Value.int .i64)))->Hid (w.grownBy w' v.ownBlock)->Hid (v'.ownBlock=v.ownBlock\/v'.ownBlock=some (w.heap.size+1))->wpList Tryz.prog ops Q rest (a.put o.dst v') w'):wpList Tryz.prog ops Q (o :: rest) a (w.alloc (.cells #[.int .i64 y] 25)):=by
 obtain⟨i,hi,hz,h1,h2⟩:=info_parts infoRef;have hn':=hn.out;have hb2:(n+1) * 8≤1099511627777 * 8:=Nat.mul_le_mul_right _ (by omega);refine wpList_append_own_at _ hgd s x 77 ho base 25 i (.int .i64 0) 1 8 Tryz.underlying77 hi hz h1 h2 rfl (by decide) v n _ hs (hown.out.alloc _) ⟨w.heap.size,0,none⟩ 1 1 [.int .i64 y] hx rfl (cell_one_new _ _ _) (by simp [Value.oneCell']) (by unfold maxLen;omega) (by omega) (by have:=hbase.out;simp;omega) ?_;intro v' w' r1 r2 _ r4;exact h v' w' (by show World.ownsRow _ _ _ _ _ _ _;simpa using r1) ((World.grownBy_alloc w _ _).trans r2) (by show _\/_;simpa using r4)
def WM.tapsL (M:WM) (l:List Int):List Int:=l.filter fun q=>M.kindOf q==16
def TapsAt (w w1:World) (base B:Nat) (xs:List Int) (wr:World):Prop :=
 ∃ v,wr.heap[B]? = some (.cells #[v] 267 (0,0))/\wr.ownsRow base 25 1 v xs.length (xs.map (Value.int .i64))/\(∀ b,v.ownBlock=some b->w1.heap.size≤b)/\Below base w wr/\w1.heap.size≤wr.heap.size/\∀ b,b<w1.heap.size->b≠B->wr.heap[b]? = w1.heap[b]?
def TapsPost (w:World) (base B:Nat) (xs:List Int) (w':World):Prop :=
 ∃ v,w'.heap[B]? = some (.cells #[v] 267 (0,0))/\w'.ownsRow base 25 1 v xs.length (xs.map (Value.int .i64))/\Below base w w'
def AddPost (w:World) (base B:Nat) (v:Value) (xs:List Int) (q:Int) (w':World):Prop :=
 ∃ v',w'.heap[B]? = some (.cells #[v'] 267 (0,0))/\w'.ownsRow base 25 1 v' (xs ++ [q]).length ((xs ++ [q]).map (Value.int .i64))/\(v'.ownBlock=v.ownBlock\/v'.ownBlock=some (w.heap.size+1))/\Keeps (fun b=>b=B\/v.ownBlock=some b) w w'
theorem add_box {w w1:World} {v:Value} {B:Nat} {o:Obj} (hg:w.grownBy w1 v.ownBlock) (hB:w.heap[B]? = some o) (hne:v.ownBlock≠some B):w1.heap[B]? = some o :=
 (hg.block B (blk_lt hB) (fun e=>hne e.symm)).trans hB
theorem box_is {W:World} {B:Nat} {v:Value} {t:TypeId} (h:W.heap[B]? = some (.cells #[v] t (0,0))):W.cell? ⟨B,0,none⟩=some v/\W.frozen? ⟨B,0,none⟩=false:=by
 constructor <;> simp [World.cell?,World.frozen?,h]
theorem row_succ {w:World} {base:Nat} {e:TypeId} {v:Value} {n:Nat} {xs:List Value} (h:w.ownsRow base e 1 v (n+1) xs):∃ g cap,v=.slice (some ⟨g,0,none⟩) (n+1) cap:=by
 rcases h.2 with ⟨-,h⟩ | ⟨g,cap,cur,rfl,-⟩
 ·omega
 ·exact⟨g,cap,rfl⟩
theorem add_W (w:World) {B base:Nat} {v:Value} {xs:List Int} (q:Int) (hB:w.heap[B]? = some (.cells #[v] 267 (0,0))) (hrow:w.ownsRow base 25 1 v xs.length (xs.map (Value.int .i64))) (hne:v.ownBlock≠some B) (hbase:base≤w.heap.size) (hlen:(xs.length:Int)≤1099511627776) :
 Calls Tryz.prog 214 #[.pointer (some ⟨B,0,none⟩),.int .i64 q] w fun e w'=>e=.returned (.tuple #[])/\Hid (AddPost w base B v xs q w'):=by
 have c0:w.cell? ⟨B,0,none⟩=some v:=by rw [cell_blk hB];rfl
 have HB:=(show Hid _ from hB);have HR:=(show Hid (w.ownsRow base 25 1 v xs.length (xs.map (Value.int .i64)))from hrow);have Hne:=(show Hid (v.ownBlock≠some B)from hne);have Hba:=(show Hid (base≤w.heap.size)from hbase);have Hlen:=(show Hid ((xs.length:Int)≤1099511627776)from hlen);clear hB hrow hne hbase hlen
 go_enter Tryz.func214,Tryz.ntmps214
 go_wp2_with (at_builtin;refine append_refT rfl _ _ rfl base v xs xs.length rfl HR q rfl Hlen Hba ?_;intro v' w1 hrow1 hg1 hown1;obtain⟨g5,cap5,h5⟩:=row_succ hrow1.out;subst h5;have hB1:=add_box hg1.out HB.out Hne.out;obtain⟨cB,fB⟩:=box_is hB1)
 have hBlt:=blk_lt HB.out;have hk:Keeps (fun b=>v.ownBlock=some b) w w1:=Keeps.of_grown hg1.out (fun x hx=>hx)
 have HAP:Hid (AddPost w base B v xs q (w1.setCell ⟨B,0,none⟩ (.slice (some ⟨g5,0,none⟩) (xs.length+1) cap5))):=by
  have hs:=blk_setCell hB1 0 (.slice (some ⟨g5,0,none⟩) (xs.length+1) cap5);refine⟨.slice (some ⟨g5,0,none⟩) (xs.length+1) cap5,hs,?_,hown1.out,hk.trans (Keeps.setCell (S:=fun b=>b=B) w1 ⟨B,0,none⟩ _ rfl) (fun _ _ h=>.inr h) (fun _ _ h=>.inl h)⟩
  have hne':(Value.slice (some ⟨g5,0,none⟩) (xs.length+1) cap5).ownBlock≠some B:=fun e=>by
   rcases hown1.out with h | h
   ·exact Hne.out (h.symm.trans e)
   ·rw [h]at e;simp only [Option.some.injEq]at e;omega
  have hr:=hrow1.out;refine⟨by simp,?_⟩
  rcases hr.2 with ⟨h1,h2⟩ | ⟨g,cap,cur,he,h1,h2,h3⟩
  ·exact absurd h2 (by omega)
  ·cases he
   refine .inr ⟨g5,cap5,cur,by simp,h1,(blk_other h2 ⟨B,0,none⟩ _ (fun e=>hne' (by simp [Value.ownBlock,e]))),by simpa using h3⟩
 clear hBlt hk hB1 hrow1 hg1 hown1 HB HR c0
 go_wp2_with fail
 go_end0
 exact⟨rfl,HAP⟩
theorem tapsL_snoc (M:WM) (l:List Int) (q:Int):M.tapsL (l ++ [q])=if M.kindOf q=16 then M.tapsL l ++ [q]else M.tapsL l:=by
 unfold WM.tapsL;rw [List.filter_append]
 by_cases h:M.kindOf q=16 <;> simp [h]
theorem keeps_from {base:Nat} {w w':World} (h:Below base w w'):Keeps (fun b=>base≤b) w w':=⟨h.os,h.tape,h.output,h.size,fun b _ hn=>h.block b (by omega)⟩
theorem TapsAt.add {w w1:World} {base B:Nat} {xs:List Int} {wr w2:World} {v:Value} {q:Int} (hb:base≤B) (hB:B<w1.heap.size) (hv:∀ b,v.ownBlock=some b->w1.heap.size≤b) (h4:Below base w wr) (h5:w1.heap.size≤wr.heap.size)
 (h6:∀ b,b<w1.heap.size->b≠B->wr.heap[b]? = w1.heap[b]?) (hbw:base≤w.heap.size) (h:AddPost wr base B v xs q w2):TapsAt w w1 base B (xs ++ [q]) w2:=by
 obtain⟨v',a1,a2,a3,a4⟩:=h;refine⟨v',a1,a2,fun b hb'=>?_,h4.trans (Keeps.below a4 (Nat.le_trans hbw h4.size) (fun x hx=>?_)),Nat.le_trans h5 a4.size,fun b h1 h2=>?_⟩
 ·rcases a3 with e | e
  ·exact hv b (e.symm.trans hb')
  ·rw [e]at hb';simp only [Option.some.injEq]at hb';omega
 ·rcases hx with rfl | hx
  ·exact hb
  ·have:=hv x hx;omega
 ·refine(a4.block b (by omega) (fun e=>?_)).trans (h6 b h1 h2)
  rcases e with e | e
  ·exact h2 e
  ·have:=hv b e;omega
theorem walkTaps_W {w:World} {p:Nat} {M:WM} {F:Nat->Prop} {base B:Nat} (hW:IsW w p M F) (hF:Hid (∀ b,F b->b<base)) (hb:Hid (base≤B)) (hB:w.heap[B]? = some (.cells #[.slice none 0 0] 267 (0,0))) {r:Int} {l:List Int} (hl:WayIs M r l) {t0:Th} (hr:M.at r=some t0) :
 Calls Tryz.prog 212 #[.pointer (some ⟨p,0,none⟩),.int .i64 r,.func (.func 214) #[.pointer (some ⟨B,0,none⟩)] #[]] w fun e w'=>e=.returned (.int .i64 0)/\Hid (TapsPost w base B (M.tapsL l) w'):=by
 have hrw:=hW.ok.at_wf hr;have HS:=(show Hid _ from Sides_W hW);have hI:=Is_W hW hrw;rw [hr]at hI;have HI:=(show Hid _ from hI);have HY:=(show Hid _ from Way_W hW hrw hl)
 have hne:((M.made.length:Int)==0)=false:=by
  have:=hW.ok.made;exact beq_eq_false_iff_ne.2 (by omega)
 have HW:=(show Hid (IsW w p M F)from hW);have HB:=(show Hid _ from hB);have HM:=(show Hid (∀ q ∈ l,∃ t,M.at q=some t)from way_mem l r hl)
 have Hlen:Hid ((l.length:Int)≤1099511627777):=by
  obtain⟨l',h1,h2⟩:=way_ex hW.ok r;obtain rfl:=hl.uniq h1;have:=hW.ok.last;show _≤_;omega
 obtain⟨n,hn⟩:∃ n,n=l.length:=⟨_,rfl⟩;have Hn:=(show Hid (n=l.length)from hn);rw [<- hn]at HY Hlen;clear hW hB hr hl hI hn
 go_enter Tryz.func212,Tryz.ntmps212
 go_wp2_with fail
 refine Calls.mono HS.out ?_;rintro e _ ⟨rfl,rfl⟩
 go_wp2_with fail
 refine Calls.mono HI.out ?_;rintro e _ ⟨rfl,rfl⟩
 go_wp2_with fail
 refine Calls.mono HY.out ?_;rintro e w1 ⟨v,rfl,hrow,hb1⟩;obtain⟨a,cap,rfl,hcells⟩:=way_cells hrow;have HB1:=(show Hid (Bl w w1)from hb1);have HC:=(show Hid (∀ k,k<n->∃ g,a=some ⟨g,0,none⟩/\w.heap.size≤g/\g<w1.heap.size/\w1.cell? ⟨g,k,none⟩=(l.map (Value.int .i64))[k]?)from hcells);have HBB:Hid (B<w1.heap.size/\base≤w.heap.size):=⟨Nat.lt_of_lt_of_le (blk_lt HB.out) hb1.size,by have:=hb.out;have:=blk_lt HB.out;omega⟩;have HT0:Hid (TapsAt w w1 base B (M.tapsL (l.take 0)) w1):=⟨.slice none 0 0,below_blk hb1 HB.out,⟨rfl,.inl ⟨rfl,rfl⟩⟩,(fun b h=>by cases h),hb1.mono HBB.out.2,Nat.le_refl _,fun b _ _=>rfl⟩;clear hrow hcells hb1 HS HI HY
 go_wp2_with fail
 go_loopw [24] (fun vi wr=>∃ k:Nat,vi=.int .i64 k/\k≤n/\Hid (TapsAt w w1 base B (M.tapsL (l.take k)) wr)) (fun vi _=>n - (intOf vi).toNat)
 case atStart=>exact⟨0,rfl,Nat.zero_le _,HT0⟩
 case round =>
  clear HT0;obtain⟨k,rfl,hk,HR⟩:=hrel
  by_cases hkn:k<n
  ·have hkz:(k:Int)<(n:Int):=by omega
   have hwk:wrap64 ((k:Int)+1)=(k:Int)+1:=by have:=Hlen.out;unfold wrap64;omega
   obtain⟨q,hq⟩:∃ q,l[k]? = some q:=⟨_,List.getElem?_eq_getElem (by have:=Hn.out;omega)⟩;have Htk:Hid (l.take (k+1)=l.take k ++ [q]):=by show _=_;rw [List.take_add_one,hq];rfl
   obtain⟨t,ht⟩:=HM.out q (List.mem_of_getElem? hq);obtain⟨g,rfl,hg0,hg1,hgc⟩:=HC.out k hkn;obtain⟨v,hv1,hv2,hv3,hv4,hv5,hv6⟩:=HR.out;have hgB:g≠B:=by have:=blk_lt HB.out;omega
   have hcell:wr.cell? ⟨g,k,none⟩=some (.int .i64 q):=by
    rw [World.cell?_of_block (a:=⟨g,k,none⟩) (hv6 g hg1 hgB),hgc,List.getElem?_map,hq];rfl
   have hWr:IsW wr p M F:=HW.out.keeps (keeps_from hv4) (fun b hb'=>by have:=hF.out b hb';omega);have hkw:=Kind_W hWr (HW.out.ok.at_wf ht);have HK:=(show Hid _ from hkw);have HV:=(show Hid _ from And.intro hv1 (And.intro hv2 (And.intro hv3 (And.intro hv4 (And.intro hv5 hv6)))));clear hq ht hgc hkw hWr hv1 hv2 hv3 hv4 hv5 hv6 hgB
   by_cases h16:M.kindOf q=16
   ·have e16:(M.kindOf q==16)=true:=by simpa using h16
    have Htp:Hid (M.tapsL (l.take (k+1))=M.tapsL (l.take k) ++ [q]):=by show _=_;rw [Htk.out,tapsL_snoc,if_pos h16]
    have haw:=add_W wr (B:=B) (base:=base) (v:=v) (xs:=M.tapsL (l.take k)) q HV.out.1 HV.out.2.1 (fun e=>by have:=HV.out.2.2.1 B e;have:=HBB.out.1;omega) (by have:=HV.out.2.2.2.2.1;have:=HBB.out.1;have:=hb.out;omega) (by
     have h1:(M.tapsL (l.take k)).length≤(l.take k).length:=List.length_filter_le _ _;have h2:=Hlen.out;rw [List.length_take]at h1
     omega)
    have HAW:=(show Hid _ from haw);clear haw h16
    go_wp2_with fail
    refine Calls.mono HK.out ?_;rintro e _ ⟨rfl,rfl⟩
    go_wp2_with fail
    refine Calls.mono HAW.out ?_;rintro e w2 ⟨rfl,hA⟩
    have HR2:Hid (TapsAt w w1 base B (M.tapsL (l.take (k+1))) w2):=by
     rw [Htp.out];exact TapsAt.add hb.out HBB.out.1 HV.out.2.2.1 HV.out.2.2.2.1 HV.out.2.2.2.2.1 HV.out.2.2.2.2.2 HBB.out.2 hA.out
    clear hA HR HAW HK HV
    go_wp2_with fail
    go_roundw
    case rel=>exact⟨k+1,by rw [hwk];go_num,by omega,HR2⟩
    case measure=>rw [hwk];exact meas_up hkn
   ·have e16:(M.kindOf q==16)=false:=by simpa using h16
    have HR2:Hid (TapsAt w w1 base B (M.tapsL (l.take (k+1))) wr):=by
     rw [Htk.out,tapsL_snoc,if_neg h16];exact HR.out
    clear h16 HR HV
    go_wp2_with fail
    refine Calls.mono HK.out ?_;rintro e _ ⟨rfl,rfl⟩
    go_wp2_with fail
    go_roundw
    case rel=>exact⟨k+1,by rw [hwk];go_num,by omega,HR2⟩
    case measure=>rw [hwk];exact meas_up hkn
  ·have hkz:¬ (k:Int)<(n:Int):=by omega
   obtain rfl:k=n:=by omega
   have HR2:Hid (TapsPost w base B (M.tapsL l) wr):=by
    obtain⟨v,hv1,hv2,hv3,hv4,-⟩:=HR.out;rw [Hn.out,List.take_length]at hv2;exact⟨v,hv1,hv2,hv4⟩
   clear HR
   go_wp2_with fail
   go_ret
   exact⟨rfl,HR2⟩
theorem Taps_W {w:World} {p:Nat} {M:WM} {F:Nat->Prop} (hW:IsW w p M F) {r:Int} {l:List Int} (hl:WayIs M r l) {t0:Th} (hr:M.at r=some t0) :
 Calls Tryz.prog 117 #[.pointer (some ⟨p,0,none⟩),.int .i64 r] w fun e w'=>∃ v,e=.returned (.tuple #[v,.int .i64 0])/\w'.ownsRow w.heap.size 25 1 v (M.tapsL l).length ((M.tapsL l).map (Value.int .i64))/\Bl w w':=by
 have hmf:∀ (fn:Fn) (first cap:Array Value) (w:World),(Instr.makeFunc fn first cap).run Tryz.prog w=.ok (.func fn first cap) w:=fun _ _ _ _=>rfl;have hb1:Bl w (w.alloc (.cells #[.slice none 0 0] 267)):=(Below.refl _ _).alloc (Nat.le_refl _) _;have HP:=(show Hid _ from walkTaps_W (base:=w.heap.size) (B:=w.heap.size) (hW.below hb1) hW.lt (Nat.le_refl _) (blk_new _ _) hl hr);have HB1:=(show Hid _ from hb1);clear hW hl hr hb1
 go_enter Tryz.func117,Tryz.ntmps117
 go_wp2_with fail
 refine Calls.mono HP.out ?_;rintro e w1 ⟨rfl,h1⟩;obtain⟨v,hv1,hv2,hv3⟩:=h1.out;have cB:w1.cell? ⟨w.heap.size,0,none⟩=some v:=by rw [cell_blk hv1];rfl
 have H2:Hid (w1.ownsRow w.heap.size 25 1 v (M.tapsL l).length ((M.tapsL l).map (Value.int .i64))/\Bl w w1):=⟨hv2,HB1.out.trans hv3⟩;clear hv1 hv2 hv3 h1
 go_wp2_with fail
 go_ret2
 exact⟨v,rfl,H2.out.1,H2.out.2⟩
end
section
theorem len_sub:∀ (l m:List Int),l.Nodup->(∀ x ∈ l,x ∈ m)->l.length≤m.length
 | [],m,_,_=>Nat.zero_le _
 | x :: l,m,hn,h=>by
   obtain⟨h1,h2⟩:=List.nodup_cons.1 hn;have hx:x ∈ m:=h x (List.mem_cons_self ..);have:=len_sub l (m.erase x) h2 fun y hy=>(List.mem_erase_of_ne (fun e=>by subst e;exact h1 hy)).2 (h y (List.mem_cons_of_mem _ hy));rw [List.length_erase_of_mem hx]at this;have:0<m.length:=List.length_pos_of_mem hx;simp only [List.length_cons];omega
theorem way_nodup {M:WM} (hok:M.ok) {r:Int} {l:List Int} (h:WayIs M r l):l.Nodup:=by
 obtain⟨rk,-,hrk⟩:=hok.wrap
 suffices ∀ m r l,rk r=m->WayIs M r l->l.Nodup/\∀ q ∈ l,rk q≤rk r from(this _ r l rfl h).1
 clear h;intro m
 induction m using Nat.strongRecOn with
 | ind m ih =>
   intro r l hm h;subst hm
   cases hr:M.at r with
   | none=>rw [h.none hr];exact⟨List.nodup_nil,by simp⟩
   | some t =>
     cases hk:wrapsB t.kind with
     | true =>
       obtain⟨l',rfl,h'⟩:=h.wrap hr hk;have hlt:=(hrk r t hr hk).2;obtain⟨h1,h2⟩:=ih _ hlt t.tgt l' rfl h';refine⟨List.nodup_cons.2 ⟨fun hm=>?_,h1⟩,fun q hq=>?_⟩
       ·have:=h2 r hm;omega
       ·rcases List.mem_cons.1 hq with rfl | hq
        ·exact Nat.le_refl _
        ·have:=h2 q hq;omega
     | false =>
       rw [h.base hr hk];exact⟨by simp,by simp⟩
theorem way_len {M:WM} (hok:M.ok) {r:Int} {l:List Int} (h:WayIs M r l):l.length≤M.things.length:=by
 have:=len_sub l (M.things.map (·.1)) (way_nodup hok h) fun x hx=>by
  obtain⟨t,ht⟩:=way_mem l r h x hx;exact List.mem_map.2 ⟨(x,t),at_mem ht,rfl⟩
 simpa using this
theorem wrap7_W (w:World) (k:Int):Calls Tryz.prog 146 #[.int .i64 k] w fun e w'=>e=.returned (.bool (wrapsB k))/\w=w':=by
 by_cases h14:k=14
 ·subst h14
  go_enter Tryz.func146,Tryz.ntmps146
  go_wp2_with fail
  go_ret
  exact⟨rfl,rfl⟩
 by_cases h15:k=15
 ·subst h15
  go_enter Tryz.func146,Tryz.ntmps146
  go_wp2_with fail
  go_ret
  exact⟨rfl,rfl⟩
 by_cases h16:k=16
 ·subst h16
  go_enter Tryz.func146,Tryz.ntmps146
  go_wp2_with fail
  go_ret
  exact⟨rfl,rfl⟩
 have:wrapsB k=false:=by simp [wrapsB,h14,h15,h16]
 rw [this];exact wrap7_no w k h14 h15 h16
theorem ownsRow_lt {w:World} {base s n:Nat} {e:TypeId} {v:Value} {xs:List Value} (h:w.ownsRow base e s v n xs):∀ b,v.ownBlock=some b->b<w.heap.size:=fun b hb=>by
 obtain⟨h1,⟨rfl,h0⟩ | ⟨g,cap,cur,rfl,hg,hbk,-⟩⟩:=h
 ·cases hb
 ·injection hb with hb
  subst hb;exact blk_lt hbk
def WayPost (w:World) (l:List Int) (e:Ending) (w':World):Prop:=∃ v,e=.returned v/\w'.ownsRow w.heap.size 25 1 v l.length (l.map (Value.int .i64))/\Bl w w'
theorem way7_W {w:World} {q:Nat} {N:WM} {G:Nat->Prop} (hR:IsR w q N G) (hN:ROk N) (hok:N.ok) {r:Int} {l:List Int} (hl:WayIs N r l) :
 Calls Tryz.prog 57 #[.pointer (some ⟨q,0,none⟩),.int .i64 r] w (WayPost w l):=by
 obtain⟨sP,sC,sT,sM,hV⟩:=hR;obtain⟨n,hn⟩:∃ n,n=N.things.length:=⟨_,rfl⟩
 obtain⟨p0,c0,hsT⟩:∃ p c,sT=.slice p n c:=by
  obtain⟨h1,⟨rfl,h0⟩ | ⟨g,cap,cur,rfl,-⟩⟩:=hV.rt
  ·exact⟨none,0,by rw [hn,h0]⟩
  ·exact⟨_,_,by rw [hn]⟩
 subst hsT;have HV:=(show Hid (RVw w q N G sP sC (.slice p0 n c0) sM)from hV);have HLn:Hid (l.length≤n/\n≤100000):=⟨by rw [hn];exact way_len hok hl,by have:=hN.len;omega⟩;have HA:Hid (∀ w1 r,Bl w w1->Calls Tryz.prog 47 #[.pointer (some ⟨q,0,none⟩),.int .i64 r] w1 fun e w'=>e=.returned (.tuple #[.agg (thc (at7 N r)),.bool (N.at r).isSome])/\Bl w1 w'):=fun w1 r hb=>at7_W ⟨_,_,_,_,hV.below hb⟩ hN.len r (fun x hx=>(hN.kd x hx).1)
 have HO:Hid (∀ r,(thc (at7 N r)).all (·.oneCell')=true/\IntKind.i64.wrap (at7 N r).kind=(at7 N r).kind):=fun r=>⟨hN.one r,by
  have hk:0≤(at7 N r).kind/\(at7 N r).kind≤255:=by
   rcases at7_mem (M:=N) (r:=r)with h | ⟨x,hx,h⟩
   ·rw [h];exact⟨by decide,by decide⟩
   ·rw [h];exact(hN.kd x hx).2
  simp [IntKind.wrap,IntKind.signed,IntKind.bits];omega⟩
 have HL:=(show Hid (WayIs N r l)from hl);clear hV hn hN hl hok
 go_enter Tryz.func57,Tryz.ntmps57
 go_wp2_with fail
 go_loopw [1,5,6] (fun vr vl vk wr=>∃ (x:Int) (u:Value) (i:Nat) (pre rest:List Int),vr=.int .i64 x/\u=vl/\vk=.int .i64 i/\i=pre.length/\Hid (WayIs N x rest)/\Hid (l=pre ++ rest)/\Hid (Bl w wr/\wr.ownsRow w.heap.size 25 1 u pre.length (pre.map (Value.int .i64)))) (fun _ _ vk _=>n+1 - (intOf vk).toNat)
 case atStart=>exact⟨r,_,0,[],l,rfl,rfl,rfl,rfl,HL.out,rfl,Below.refl _ _,World.ownsRow_nil _ _ _ _⟩
 case round =>
  obtain⟨x,u,i,pre,rest,rfl,rfl,rfl,hi,HW,HE,HB⟩:=hrel;have HV1:=(show Hid _ from HV.out.below HB.out.1);have d2:wr.cell? ⟨q,2,none⟩=some (.slice p0 n c0):=by rw [cell_blk HV1.out.blk];rfl
  have hin:i≤n:=by have h1:=HLn.out.1;have h2:=congrArg List.length HE.out;rw [List.length_append]at h2;omega
  have hiz:(i:Int)≤(n:Int):=by omega
  have hwi:wrap64 ((i:Int)+1)=(i:Int)+1:=by have:=HLn.out;unfold wrap64;omega
  have HI:=(show Hid (i=pre.length)from hi);clear hi HV1
  go_wp2_with fail
  refine Calls.mono (HA.out wr x HB.out.1) ?_;rintro e w1 ⟨rfl,hb1⟩;obtain⟨hone,hwk⟩:=HO.out x;obtain⟨w2,hst,hb2,hg2,-⟩:=boxed_what' w1 (thc (at7 N x)) rfl hone;have H2:Hid (Bl wr w2):=hb1.trans (hb2.mono hb1.size);have H3:Hid (Bl w w2/\w2.ownsRow w.heap.size 25 1 u pre.length (pre.map (Value.int .i64))):=⟨HB.out.1.trans (H2.out.mono HB.out.1.size),ownsRow_on HB.out.2 H2.out⟩
  cases ha:N.at x with
  | none =>
    have Hd:Hid (l=pre):=by
     have:=HE.out;rw [HW.out.none ha,List.append_nil]at this;exact this
    clear hb1 hb2 hg2 hone HB H2 ha hwk;generalize at7 N x=t at *
    go_wp2_with fail
    go_returns
    exact⟨_,rfl,by rw [Hd.out];exact H3.out.2,H3.out.1⟩
  | some t =>
    have et:at7 N x=t:=by unfold at7;rw [ha];rfl
    rw [et]at hst hg2 hwk ⊢;have k0:w2.cell? ⟨w1.heap.size,0,none⟩=some (.int .u8 t.kind):=by rw [cell_blk hg2];rfl
    have Hp:Hid ((pre.length:Int)≤1099511627777):=by have h1:=HI.out;have h2:=HLn.out;show _≤_;omega
    have HZ:Hid (w.heap.size≤w2.heap.size):=H3.out.1.size
    have Hone:Hid (u.ownBlock≠some w1.heap.size):=fun e=>by
     have:=ownsRow_lt HB.out.2 _ e;have:=hb1.size;omega
    have Hg2:Hid (w2.heap[w1.heap.size]? = some (.cells (thc t) 46 (0,0))):=hg2;clear hb1 hb2 hg2 hone HB H2 et k0
    go_wp2_with (first
     | (at_builtin;refine append_ref rfl _ _ rfl w.heap.size u pre rfl H3.out.2 x rfl Hp HZ.out ?_;intro v' w5 hown' hg5 hb5;have hg6:=add_box hg5 Hg2.out Hone.out;have k0:w5.cell? ⟨w1.heap.size,0,none⟩=some (.int .u8 t.kind):=(cell_blk hg6 0).trans rfl;have k10:w5.cell? ⟨w1.heap.size,10,none⟩=some (.int .i64 t.tgt):=(cell_blk hg6 10).trans rfl))
    have H5:Hid (Bl w w5/\w5.ownsRow w.heap.size 25 1 v' (pre ++ [x]).length ((pre ++ [x]).map (Value.int .i64))):=⟨H3.out.1.trans hb5,hown'⟩;have HA0:=(show Hid (N.at x=some t)from ha);clear hg5 hb5 hown' hg6 H3 Hg2 Hone hst ha
    cases hk:wrapsB t.kind with
    | false =>
      have HD:Hid (l=pre ++ [x]):=by
       have:=HE.out;rw [HW.out.base HA0.out hk]at this;exact this
      clear HE HW HA0;have HC:=wrap7_W w5 t.kind;rw [hk]at HC;clear hk;refine HC.mono ?_;rintro e _ ⟨rfl,rfl⟩
      go_wp2_with fail
      go_returns
      exact⟨_,rfl,by rw [HD.out];exact H5.out.2,H5.out.1⟩
    | true =>
      have HD:Hid (∃ l',l=(pre ++ [x]) ++ l'/\WayIs N t.tgt l'):=by
       obtain⟨l',e1,h1⟩:=HW.out.wrap HA0.out hk;have:=HE.out;rw [e1]at this;exact⟨l',by rw [this];simp,h1⟩
      clear HE HW HA0;have HC:=wrap7_W w5 t.kind;rw [hk]at HC;clear hk;refine HC.mono ?_;rintro e _ ⟨rfl,rfl⟩
      go_wp2_with fail
      go_roundw
      case rel =>
       obtain⟨l',e1,h1⟩:=HD.out;exact⟨t.tgt,_,i+1,pre ++ [x],l',rfl,rfl,by go_num,by rw [HI.out];simp,h1,e1,H5.out⟩
      case measure=>rw [hwi];clear hwi;simp [intOf];omega

end
section
variable {w:World} {q:Nat} {M:WM} {G:Nat->Prop}
theorem ownsRow_base13 {w:World} {base b' s n:Nat} {e:TypeId} {v:Value} {xs:List Value} (h:w.ownsRow base e s v n xs) (hb:b'≤base):w.ownsRow b' e s v n xs :=
 ⟨h.1,h.2.imp id fun⟨g,cap,cur,a1,a2,a3⟩=>⟨g,cap,cur,a1,Nat.le_trans hb a2,a3⟩⟩
def tapE (M:WM) (k r:Int):Int:=if (M.at r).isSome then if (at7 M r).kind=k then 0 else 130 else 5
theorem tally13_W (hR:IsR w q M G) (hN:ROk M) (r:Int):Calls Tryz.prog 126 #[.pointer (some ⟨q,0,none⟩),.int .i64 r] w fun e w' =>
 e=.returned (.tuple #[.int .i64 (if tapE M 16 r=0 then (at7 M r).bi else 0),.int .i64 (tapE M 16 r)])/\Bl w w':=by
 have HA:=(show Hid _ from at7_W hR hN.len r (fun x hx=>(hN.kd x hx).1));have hone:=hN.one r;obtain⟨V,hV⟩:∃ V,V=(if tapE M 16 r=0 then (at7 M r).bi else 0):=⟨_,rfl⟩
 obtain⟨E,hE⟩:∃ E,E=tapE M 16 r:=⟨_,rfl⟩;rw [<- hV,← hE];rw [<- hE]at hV;unfold tapE at hE;clear hR hN;generalize at7 M r=t at *;generalize (M.at r).isSome=B at *;have HE:=(show Hid (E=if B=true then if t.kind=16 then 0 else 130 else 5)from hE)
 have HV:=(show Hid (V=if E=0 then t.bi else 0)from hV)
 clear hE hV
 go_enter Tryz.func126,Tryz.ntmps126
 go_wp2_with fail
 refine Calls.mono HA.out ?_;rintro e w1 ⟨rfl,hb1⟩;obtain⟨w2,hst,hb2,hg2,-⟩:=boxed_what' w1 (thc t) rfl hone;have k0:w2.cell? ⟨w1.heap.size,0,none⟩=some (.int .u8 t.kind):=by rw [cell_blk hg2];rfl
 have k11:w2.cell? ⟨w1.heap.size,11,none⟩=some (.int .i64 t.bi):=by rw [cell_blk hg2];rfl
 have HB2:=(show Hid (Bl w w2)from hb1.trans (hb2.mono hb1.size));clear hb1 hb2 hg2 hone HA
 cases B
 ·have HX:Hid (E=5/\V=0):=by
   have h1:E=5:=HE.out;exact⟨h1,by rw [HV.out,h1];rfl⟩
  clear HE HV
  go_wp2_with fail
  go_ret2
  exact⟨by rw [HX.out.1,HX.out.2];rfl,HB2.out⟩
 ·by_cases hk:t.kind=16
  ·have hkb:(t.kind==16)=true:=by simpa using hk
   have HX:Hid (E=0/\V=t.bi):=by
    have h1:E=0:=by rw [HE.out,if_pos rfl,if_pos hk]
    exact⟨h1,by rw [HV.out,h1];rfl⟩
   clear hk HE HV
   go_wp2_with fail
   go_ret2
   exact⟨by rw [HX.out.1,HX.out.2];rfl,HB2.out⟩
  ·have hkb:(t.kind==16)=false:=by simpa using hk
   have HX:Hid (E=130/\V=0):=by
    have h1:E=130:=by rw [HE.out,if_pos rfl,if_neg hk]
    exact⟨h1,by rw [HV.out,h1];rfl⟩
   clear hk HE HV
   go_wp2_with fail
   go_ret2
   exact⟨by rw [HX.out.1,HX.out.2];rfl,HB2.out⟩
theorem count13_no (hR:IsR w q M G) (hN:ROk M) (r:Int) (he:tapE M 16 r≠0):Calls Tryz.prog 124 #[.pointer (some ⟨q,0,none⟩),.int .i64 r] w fun e w' =>
 e=.returned (.tuple #[.int .i64 0,.int .i64 (tapE M 16 r)])/\Bl w w':=by
 have HT:=(show Hid _ from tally13_W hR hN r);rw [if_neg he]at HT;generalize tapE M 16 r=E at *;have heb:(E==0)=false:=by simpa using he
 clear hR hN he
 go_enter Tryz.func124,Tryz.ntmps124
 go_wp2_with fail
 refine Calls.mono HT.out ?_;rintro e w1 ⟨rfl,hb1⟩;have HB1:=(show Hid (Bl w w1)from hb1);clear hb1
 go_wp2_with fail
 go_ret2
 exact⟨rfl,HB1.out⟩
theorem count13_W (hR:IsR w q M G) (hN:ROk M) (r:Int) (he:tapE M 16 r=0):Calls Tryz.prog 124 #[.pointer (some ⟨q,0,none⟩),.int .i64 r] w fun e w' =>
 e=.returned (.tuple #[.int .i64 (at7 M (at7 M r).bi).n,.int .i64 0])/\Bl w w':=by
 have HT:=(show Hid _ from tally13_W hR hN r);rw [if_pos he,he]at HT;generalize (at7 M r).bi=n at *;have HA:Hid (∀ w1,Bl w w1->Calls Tryz.prog 47 #[.pointer (some ⟨q,0,none⟩),.int .i64 n] w1 fun e w'=>e=.returned (.tuple #[.agg (thc (at7 M n)),.bool (M.at n).isSome])/\Bl w1 w'):=fun w1 hb=>at7_W (hR.below hb) hN.len n (fun x hx=>(hN.kd x hx).1);have hone:=hN.one n;clear hR hN he;generalize at7 M n=t at *;generalize (M.at n).isSome=B at *
 go_enter Tryz.func124,Tryz.ntmps124
 go_wp2_with fail
 refine Calls.mono HT.out ?_;rintro e w1 ⟨rfl,hb1⟩;have HB1:=(show Hid (Bl w w1)from hb1);clear hb1
 go_wp2_with fail
 refine Calls.mono (HA.out w1 HB1.out) ?_;rintro e w2 ⟨rfl,hb2⟩;obtain⟨w3,hst,hb3,hg3,-⟩:=boxed_what' w2 (thc t) rfl hone;have k8:w3.cell? ⟨w2.heap.size,8,none⟩=some (.int .i64 t.n):=by rw [cell_blk hg3];rfl
 have HB3:=(show Hid (Bl w w3)from HB1.out.trans ((hb2.trans (hb3.mono hb2.size)).mono HB1.out.size));clear hb2 hb3 hg3 hone HA HB1
 go_wp2_with fail
 go_ret2
 exact⟨rfl,HB3.out⟩
theorem at7_kind (M:WM) (r:Int):(at7 M r).kind=M.kindOf r:=by
 unfold at7 WM.kindOf
 cases M.at r <;> rfl
theorem tapsL_take {M:WM} {l:List Int} {i:Nat} {x:Int} (hx:l[i]? = some x):M.tapsL (l.take (i+1))=if M.kindOf x=16 then M.tapsL (l.take i) ++ [x]else M.tapsL (l.take i):=by
 rw [List.take_add_one,hx];exact tapsL_snoc M (l.take i) x
theorem taps13_W (hR:IsR w q M G) (hN:ROk M) (hok:M.ok) {r:Int} {l:List Int} (hl:WayIs M r l) (hl0:l ≠ []):Calls Tryz.prog 121 #[.pointer (some ⟨q,0,none⟩),.int .i64 r] w fun e w' =>
 ∃ v,e=.returned (.tuple #[v,.int .i64 0])/\w'.ownsRow w.heap.size 25 1 v (M.tapsL l).length ((M.tapsL l).map (Value.int .i64))/\Bl w w':=by
 have HWy:=(show Hid _ from way7_W hR hN hok hl);have HA:Hid (∀ w1 r,Bl w w1->Calls Tryz.prog 47 #[.pointer (some ⟨q,0,none⟩),.int .i64 r] w1 fun e w'=>e=.returned (.tuple #[.agg (thc (at7 M r)),.bool (M.at r).isSome])/\Bl w1 w'):=fun w1 r hb=>at7_W (hR.below hb) hN.len r (fun x hx=>(hN.kd x hx).1);have HO:Hid (∀ r,(thc (at7 M r)).all (·.oneCell')=true):=fun r=>hN.one r;have HLn:Hid (l.length≤100000):=Nat.le_trans (way_len hok hl) hN.len;obtain⟨n,hn⟩:∃ n,n=l.length:=⟨_,rfl⟩;have hn0:¬ n=0:=fun e=>hl0 (List.length_eq_zero_iff.1 (by omega));have HN:=(show Hid (n=l.length)from hn);clear hR hN hok hl hl0 hn
 go_enter Tryz.func121,Tryz.ntmps121
 go_wp2_with fail
 refine Calls.mono HWy.out ?_;rintro e w1 ⟨v,rfl,hrow,hb1⟩
 obtain⟨pv,cv,rfl⟩:∃ p c,v=.slice p n c:=by
  rw [HN.out];obtain⟨h1,⟨rfl,h0⟩ | ⟨g,cap,cur,rfl,-⟩⟩:=hrow
  ·exact⟨none,0,by rw [h0]⟩
  ·exact⟨_,_,rfl⟩
 have H1:Hid (Bl w w1/\w1.ownsRow w.heap.size 25 1 (.slice pv n cv) l.length (l.map (Value.int .i64))):=⟨hb1,hrow⟩;have hn0':((n:Int)==0)=false:=by simpa using hn0
 have hn0'':¬ (n:Int)=0:=by omega
 clear hb1 hrow HWy
 go_wp2_with fail
 clear hn0' hn0''
 go_loopw [7,8] (fun vl vi wr=>∃ (i:Nat) (u:Value),u=vl/\vi=.int .i64 i/\i≤n/\Hid (Bl w1 wr/\wr.ownsRow w1.heap.size 25 1 u (M.tapsL (l.take i)).length ((M.tapsL (l.take i)).map (Value.int .i64)))) (fun _ vi _=>n - (intOf vi).toNat)
 case atStart=>exact⟨0,_,rfl,rfl,Nat.zero_le _,Below.refl _ _,World.ownsRow_nil _ _ _ _⟩
 case round =>
  obtain⟨i,u,rfl,rfl,hi,HB⟩:=hrel;have HBw:Hid (Bl w wr):=H1.out.1.trans (HB.out.1.mono H1.out.1.size)
  by_cases hin:i<n
  ·have hiz:(i:Int)<(n:Int):=by omega
   have hi0:(0:Int)≤(i:Int):=by omega
   obtain⟨x,hx⟩:∃ x,l[i]? = some x:=⟨_,List.getElem?_eq_getElem (by have:=HN.out;omega)⟩;obtain⟨g,c',hs,hcx,-,hgl⟩:=ownsRow_int H1.out.2 hx;have hp:pv=some ⟨g,0,none⟩:=by injection hs
   subst hp;have hcr:wr.cell? ⟨g,i,none⟩=some (.int .i64 x):=(HB.out.1.cell (p:=⟨g,i,none⟩) hgl).trans hcx;have HS:=(show Hid _ from tapsL_take (M:=M) hx)
   have hwi:wrap64 ((i:Int)+1)=(i:Int)+1:=by have h1:=HLn.out;have h2:=HN.out;have h3:n≤100000:=(by omega);unfold wrap64;omega
   have HG:=(show Hid (g<w1.heap.size/\w1.cell? ⟨g,i,none⟩=some (.int .i64 x))from⟨hgl,hcx⟩);clear hs hx hcx hgl
   go_wp2_with fail
   refine Calls.mono (HA.out wr x HBw.out) ?_;rintro e w3 ⟨rfl,hb3⟩;have hk:=at7_kind M x;have hone:=HO.out x;generalize at7 M x=t at *;generalize (M.at x).isSome=B at *;obtain⟨w4,hst,hb4,hg4,-⟩:=boxed_what' w3 (thc t) rfl hone;have k0:w4.cell? ⟨w3.heap.size,0,none⟩=some (.int .u8 t.kind):=by rw [cell_blk hg4];rfl
   have hb34:Bl wr w4:=hb3.trans (hb4.mono hb3.size);have H4:Hid (Bl w1 w4/\w4.ownsRow w1.heap.size 25 1 u (M.tapsL (l.take i)).length ((M.tapsL (l.take i)).map (Value.int .i64))):=⟨HB.out.1.trans (hb34.mono HB.out.1.size),ownsRow_on HB.out.2 hb34⟩;have hc4:w4.cell? ⟨g,i,none⟩=some (.int .i64 x):=(H4.out.1.cell (p:=⟨g,i,none⟩) HG.out.1).trans HG.out.2;clear hb3 hb4 hg4 hone hb34 HB HBw hcr
   by_cases h16:t.kind=16
   ·have hkb:(t.kind==16)=true:=by simpa using h16
    have HP:Hid (M.tapsL (l.take (i+1))=M.tapsL (l.take i) ++ [x]):=HS.out.trans (if_pos (by rw [<- hk];exact h16))
    have HL2:Hid (((M.tapsL (l.take i)).length:Int)≤1099511627777):=by
     have h1:(M.tapsL (l.take i)).length≤(l.take i).length:=List.length_filter_le _ _;have h2:(l.take i).length≤l.length:=by rw [List.length_take];omega
     have h3:=HLn.out;show _≤_;omega
    have HZ:Hid (w1.heap.size≤w4.heap.size):=H4.out.1.size;clear h16 hk HS
    go_wp2_with (first
     | (at_builtin;refine append_ref rfl _ _ rfl w1.heap.size u (M.tapsL (l.take i)) rfl H4.out.2 x rfl HL2 HZ.out ?_;intro v' w5 hown' hg5 hb5))
    have H5:Hid (Bl w1 w5/\w5.ownsRow w1.heap.size 25 1 v' (M.tapsL (l.take (i+1))).length ((M.tapsL (l.take (i+1))).map (Value.int .i64))):=⟨H4.out.1.trans hb5,by rw [HP.out];exact hown'⟩;clear hown' hg5 hb5 H4
    go_wp2_with fail
    go_roundw
    case rel=>exact⟨i+1,_,rfl,by go_num,by omega,H5.out⟩
    case measure=>rw [hwi];clear hwi;simp [intOf];omega
   ·have hkb:(t.kind==16)=false:=by simpa using h16
    have H5:=(show Hid (Bl w1 w4/\w4.ownsRow w1.heap.size 25 1 u (M.tapsL (l.take (i+1))).length ((M.tapsL (l.take (i+1))).map (Value.int .i64)))from⟨H4.out.1,by rw [HS.out.trans (if_neg (by rw [<- hk];exact h16))];exact H4.out.2⟩);clear h16 hk HS H4
    go_wp2_with fail
    go_roundw
    case rel=>exact⟨i+1,_,rfl,by go_num,by omega,H5.out⟩
    case measure=>rw [hwi];clear hwi;simp [intOf];omega
  ·have hiz:¬ (i:Int)<(n:Int):=by omega
   obtain rfl:i=n:=by omega
   have hkk:¬ (i:Int)<(i:Int):=by omega
   have HE:Hid (M.tapsL (l.take i)=M.tapsL l):=by show _=_;rw [HN.out,List.take_length]
   have H5:Hid (wr.ownsRow w.heap.size 25 1 u (M.tapsL l).length ((M.tapsL l).map (Value.int .i64))/\Bl w wr):=⟨by rw [<- HE.out];exact ownsRow_base13 HB.out.2 H1.out.1.size,HBw.out⟩;clear HB HBw H1
   go_wp2_with fail
   go_ret2
   exact⟨_,rfl,H5.out.1,H5.out.2⟩
end
section
variable {w:World} {q:Nat} {M:WM} {G:Nat->Prop}
def ofTo (M:WM) (r:Int) (i:Nat):List Int:=((M.things.take i).filter (isBy 16 r)).map (·.1)
theorem ofTo_len (M:WM) (r:Int) (i:Nat):(ofTo M r i).length≤M.things.length:=by
 unfold ofTo;rw [List.length_map];have h1:=List.length_filter_le (isBy 16 r) (M.things.take i);have h2:(M.things.take i).length≤M.things.length:=by rw [List.length_take];omega
 omega
theorem ofTo_succ {M:WM} {r:Int} {i:Nat} {x:Int × Th} (hx:M.things[i]? = some x):ofTo M r (i+1)=if isBy 16 r x then ofTo M r i ++ [x.1]else ofTo M r i:=by
 unfold ofTo;rw [List.take_add_one,hx];simp only [Option.toList_some,List.filter_append,List.map_append]
 cases h:isBy 16 r x <;> simp [h]
theorem ofTo_all (M:WM) (r:Int):ofTo M r M.things.length=(M.things.filter (isBy 16 r)).map (·.1):=by
 unfold ofTo;rw [List.take_length]
theorem of13_W (hR:IsR w q M G) (hN:ROk M) (r:Int) (hyes:tapE M 3 r=0):Calls Tryz.prog 128 #[.pointer (some ⟨q,0,none⟩),.int .i64 r] w fun e w'=>∃ v,e=.returned (.tuple #[v,.int .i64 0]) /\
 w'.ownsRow w.heap.size 25 1 v (ofTo M r M.things.length).length ((ofTo M r M.things.length).map (Value.int .i64))/\Bl w w':=by
 have HA:=(show Hid _ from at7_W hR hN.len r (fun x hx=>(hN.kd x hx).1));have hone:=hN.one r
 have hy:(M.at r).isSome=true/\(at7 M r).kind=3:=by
  unfold tapE at hyes;split at hyes
  ·rename_i h
   split at hyes
   ·rename_i h2
    exact⟨h,h2⟩
   ·cases hyes
  ·cases hyes
 rw [hy.1]at HA;have hk8:(at7 M r).kind=3:=hy.2;clear hyes hy;obtain⟨sP,sC,sT,sM,hV⟩:=hR;obtain⟨n,hn⟩:∃ n,n=M.things.length:=⟨_,rfl⟩
 obtain⟨p0,c0,hsT⟩:∃ p c,sT=.slice p n c:=by
  obtain⟨h1,⟨rfl,h0⟩ | ⟨g,cap,cur,rfl,-⟩⟩:=hV.rt
  ·exact⟨none,0,by rw [hn,h0]⟩
  ·exact⟨_,_,by rw [hn]⟩
 subst hsT;have HV:=(show Hid (RVw w q M G sP sC (.slice p0 n c0) sM)from hV);have HN:Hid (n=M.things.length/\n≤100000):=⟨hn,by have:=hN.len;omega⟩;rw [<- hn];clear hV hn hN;generalize at7 M r=t at *;obtain⟨tk,th,tv,tvl,tvs,tvals,tn,tl,ttg,tbi,tset,tfu,tcode,tnames⟩:=t;obtain rfl:tk=3:=hk8
 go_enter Tryz.func128,Tryz.ntmps128
 go_wp2_with fail
 refine Calls.mono HA.out ?_;rintro e w2 ⟨rfl,hb2⟩;obtain⟨w3,hst,hb3,hg3,-⟩:=boxed_what' w2 (thc ⟨3,th,tv,tvl,tvs,tvals,tn,tl,ttg,tbi,tset,tfu,tcode,tnames⟩) rfl hone;have k0:w3.cell? ⟨w2.heap.size,0,none⟩=some (.int .u8 3):=by rw [cell_blk hg3];rfl
 have H3:Hid (Bl w w3):=hb2.trans (hb3.mono hb2.size);clear hb2 hb3 hg3 HA
 go_wp2_with fail
 clear hst k0
 go_loopw [8,9] (fun vl vi wr=>∃ (i:Nat) (u:Value),vl=u/\vi=.int .i64 i/\i≤n/\Hid (Bl w wr/\wr.ownsRow w.heap.size 25 1 u (ofTo M r i).length ((ofTo M r i).map (Value.int .i64)))) (fun _ vi _=>n - (intOf vi).toNat)
 case atStart=>exact⟨0,_,rfl,rfl,Nat.zero_le _,H3.out,World.ownsRow_nil _ _ _ _⟩
 case round =>
  obtain⟨i,u,rfl,rfl,hi,HB⟩:=hrel;have HV1:=(show Hid _ from HV.out.below HB.out.1);have d2:wr.cell? ⟨q,2,none⟩=some (.slice p0 n c0):=by rw [cell_blk HV1.out.blk];rfl
  by_cases hin:i<n
  ·have hiz:(i:Int)<(n:Int):=by omega
   obtain⟨x,hx⟩:∃ x,M.things[i]? = some x:=⟨_,List.getElem?_eq_getElem (by have:=HN.out.1;omega)⟩;have HS:=(show Hid _ from ofTo_succ (r:=r) hx);obtain⟨g,c,hs,hg,hc⟩:=HV1.out.ent hx;have hp0:p0=some ⟨g,0,none⟩:=by injection hs
   subst hp0;have k0:wr.cell? ⟨g,i * 17,none⟩=some (.int .i64 x.1):=hc 0 _ rfl;have k1:wr.cell? ⟨g,i * 17+1,none⟩=some (.int .u8 x.2.kind):=hc 1 _ rfl;have k12:wr.cell? ⟨g,i * 17+12,none⟩=some (.int .i64 x.2.bi):=hc 12 _ rfl;have hwi:wrap64 ((i:Int)+1)=(i:Int)+1:=by have:=HN.out.2;unfold wrap64;omega
   have HD:=(show Hid _ from HV1.out.blk);clear hs hc hx
   by_cases hk:x.2.kind=16
   ·have hkb:(x.2.kind==16)=true:=by simpa using hk
    by_cases ht:x.2.bi=r
    ·have htb:(x.2.bi==r)=true:=by simpa using ht
     have HP:Hid (ofTo M r (i+1)=ofTo M r i ++ [x.1]):=HS.out.trans (if_pos (by simp [isBy,hk,ht]));have HLn:Hid (((ofTo M r i).length:Int)≤1099511627777):=by have:=ofTo_len M r i;have:=HN.out;show _≤_;omega
     have HZ:Hid (w.heap.size≤wr.heap.size):=HB.out.1.size;clear hk ht HS
     go_wp2_with (first
      | (at_builtin;refine append_ref rfl _ _ rfl w.heap.size _ (ofTo M r i) rfl HB.out.2 x.1 rfl HLn HZ.out ?_;intro v' w5 hown' hg5 hb5))
     have HB5:Hid (Bl w w5/\w5.ownsRow w.heap.size 25 1 v' (ofTo M r (i+1)).length ((ofTo M r (i+1)).map (Value.int .i64))):=⟨HB.out.1.trans hb5,by rw [HP.out];exact hown'⟩;clear hown' hg5 hb5 HB
     go_wp2_with fail
     go_roundw
     case rel=>exact⟨i+1,_,rfl,by go_num,by omega,HB5.out⟩
     case measure=>rw [hwi];clear hwi;simp [intOf];omega
    ·have htb:(x.2.bi==r)=false:=by simpa using ht
     have HB5:=(show Hid (Bl w wr/\wr.ownsRow w.heap.size 25 1 _ (ofTo M r (i+1)).length ((ofTo M r (i+1)).map (Value.int .i64)))from⟨HB.out.1,by rw [HS.out.trans (if_neg (by simp [isBy,ht]))];exact HB.out.2⟩);clear hk ht HS HB
     go_wp2_with fail
     go_roundw
     case rel=>exact⟨i+1,_,rfl,by go_num,by omega,HB5.out⟩
     case measure=>rw [hwi];clear hwi;simp [intOf];omega
   ·have hkb:(x.2.kind==16)=false:=by simpa using hk
    have HB5:=(show Hid (Bl w wr/\wr.ownsRow w.heap.size 25 1 _ (ofTo M r (i+1)).length ((ofTo M r (i+1)).map (Value.int .i64)))from⟨HB.out.1,by rw [HS.out.trans (if_neg (by simp [isBy,hk]))];exact HB.out.2⟩);clear hk HS HB
    go_wp2_with fail
    go_roundw
    case rel=>exact⟨i+1,_,rfl,by go_num,by omega,HB5.out⟩
    case measure=>rw [hwi];clear hwi;simp [intOf];omega
  ·have hiz:¬ (i:Int)<(n:Int):=by omega
   obtain rfl:i=n:=by omega
   have hkk:¬ (i:Int)<(i:Int):=by omega
   go_wp2_with fail
   go_returns
   exact⟨_,rfl,HB.out.2,HB.out.1⟩
theorem of13_no (hR:IsR w q M G) (hN:ROk M) (r:Int) (hno:tapE M 3 r≠0):Calls Tryz.prog 128 #[.pointer (some ⟨q,0,none⟩),.int .i64 r] w fun e w'=>e=.returned (.tuple #[.slice none 0 0,.int .i64 (tapE M 3 r)])/\Bl w w':=by
 have HA:=(show Hid _ from at7_W hR hN.len r (fun x hx=>(hN.kd x hx).1));have hone:=hN.one r;obtain⟨E,hE⟩:∃ E,E=tapE M 3 r:=⟨_,rfl⟩;rw [<- hE]at hno ⊢;unfold tapE at hE;clear hR hN;generalize at7 M r=t at *;generalize (M.at r).isSome=B at *;have HE:=(show Hid (E=if B=true then if t.kind=3 then 0 else 130 else 5)from hE)
 have HNo:=(show Hid (E≠0)from hno);clear hE hno
 go_enter Tryz.func128,Tryz.ntmps128
 go_wp2_with fail
 refine Calls.mono HA.out ?_;rintro e w2 ⟨rfl,hb2⟩;obtain⟨w3,hst,hb3,hg3,-⟩:=boxed_what' w2 (thc t) rfl hone;have k0:w3.cell? ⟨w2.heap.size,0,none⟩=some (.int .u8 t.kind):=by rw [cell_blk hg3];rfl
 have H3:Hid (Bl w w3):=hb2.trans (hb3.mono hb2.size);clear hb2 hb3 hg3 HA
 cases B
 ·have HX:Hid (E=5):=HE.out;clear HE
  go_wp2_with fail
  go_ret2
  exact⟨by rw [HX.out];rfl,H3.out⟩
 ·have hk:¬ t.kind=3:=fun h=>HNo.out (by rw [HE.out,if_pos rfl,if_pos h]);have hkb:(t.kind==3)=false:=by simpa using hk
  have HX:Hid (E=130):=by show _=_;rw [HE.out,if_pos rfl,if_neg hk]
  clear hk HE
  go_wp2_with fail
  go_ret2
  exact⟨by rw [HX.out];rfl,H3.out⟩
theorem taps13_no (hR:IsR w q M G) (hN:ROk M) (hok:M.ok) {r:Int} (hr:M.at r=none):Calls Tryz.prog 121 #[.pointer (some ⟨q,0,none⟩),.int .i64 r] w fun e w'=>e=.returned (.tuple #[.slice none 0 0,.int .i64 5])/\Bl w w':=by
 have HWy:=(show Hid _ from way7_W hR hN hok (WayIs.mk_none hr));clear hR hN hok hr
 go_enter Tryz.func121,Tryz.ntmps121
 go_wp2_with fail
 refine Calls.mono HWy.out ?_;rintro e w1 ⟨v,rfl,hrow,hb1⟩
 obtain⟨pv,cv,rfl⟩:∃ p c,v=.slice p 0 c:=by
  obtain⟨h1,⟨rfl,h0⟩ | ⟨g,cap,cur,rfl,-⟩⟩:=hrow
  ·exact⟨none,0,rfl⟩
  ·exact⟨_,_,rfl⟩
 have H1:Hid (Bl w w1):=hb1;clear hb1 hrow HWy
 go_wp2_with fail
 go_ret2
 exact⟨rfl,H1.out⟩
end
end Go.Proofs.YthaliljaglldjaaGreat
