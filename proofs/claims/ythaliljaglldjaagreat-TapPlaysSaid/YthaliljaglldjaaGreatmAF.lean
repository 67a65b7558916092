/- Part of the proof. -/
import Derived.RangeFuncNested
import Derived.RangeFuncBound
import Derived.RangeFuncCalls
import Derived.RangeFuncLeaves
import Derived.RangeFuncFrom
import Derived.Shelf.Abstract
import Derived.Shelf.RegionOpen
import Derived.OwnWalkIn
import Derived.TacticsInMore
import Derived.LoopNIn
import Derived.LoopIn
import Derived.Maps.OwnIn
import Derived.Test.YthaliljaglldjaaGreatmAE
import Derived.StillTail
namespace Go.Proofs.YthaliljaglldjaaGreat
set_option maxHeartbeats 16000000
set_option maxRecDepth 100000
open Go.RowKit Go.Shelf Go.ChangeMaps Go.MapKept
section
attribute [local go_sem] Oper.semAt_some
structure KpO (own:World->Nat->Prop) (W W':World):Prop where
 size:W.heap.size≤W'.heap.size
 cells:∀ b cs e fr,W.heap[b]? = some (.cells cs e fr)->¬ own W b->W'.heap[b]? = some (.cells cs e fr)
 own':∀ b,own W' b->own W b\/W.heap.size≤b
theorem KpO.trans {own:World->Nat->Prop} {A B C:World} (h:KpO own A B) (k:KpO own B C):KpO own A C where
 size:=Nat.le_trans h.size k.size
 cells:=fun b cs e fr hb ho=>k.cells b cs e fr (h.cells b cs e fr hb ho) (fun hB=>by
  rcases h.own' b hB with h1 | h1
  ·exact ho h1
  ·have:=(Array.getElem?_eq_some_iff.1 hb).1;omega)
 own':=fun b hb=>by
  rcases k.own' b hb with h1 | h1
  ·rcases h.own' b h1 with h2 | h2
   ·exact .inl h2
   ·exact .inr h2
  ·have:=h.size;exact .inr (by omega)
theorem infoKind:(Tryz.prog.info? 22).map (fun i=>(i.zero,i.size,i.bytes))=some (some (.int .u8 0),1,1):=by kernel_rfl
theorem append_oneI {F:Fence} {nF:Nat} {P:Program} {w:World} {ops:Array Oper} {rest:List Oper} {o:Oper} {a:Act} {Q:Exit->Act->World->Prop} (hgd:o.guard=none) (s x:Operand) (t:TypeId)
 (ho:o.op=.call { callee:=.builtin .append,args:=#[s,x],argTypes:=#[t,t] }) (base:Nat) (e:TypeId) (z:Value) (bytes:Nat) (ht:P.underlying t=some (.slice e))
 (hinfo:(P.info? e).map (fun i=>(i.zero,i.size,i.bytes))=some (some z,1,bytes)) (hzs:z.cells.size=1)
 (v:Value) (n:Nat) (xs:List Value) (hs:a.eval s=v) (hown:Hid (w.ownsRow base e 1 v n xs)) (y:Value) (hx:a.eval x=.slice (some ⟨w.heap.size,0,none⟩) 1 1) (hy:y.oneCell'=true)
 (hn:Hid ((n:Int)≤1099511627777)) (hb:bytes≤64) (hbase:Hid (base≤w.heap.size))
 (h:∀ v' w',Hid (w'.ownsRow base e 1 v' (n+1) (xs ++ [y]))->Hid (w.grownBy w' v.ownBlock)->Hid (Below base w w')->wpListIn F nF P ops Q rest (a.put o.dst v') w'):wpListIn F nF P ops Q (o :: rest) a (w.alloc (.cells #[y] e)):=by
 obtain⟨i,hi,hz,h1,h2⟩:=info_parts hinfo;have hn':=hn.out;have hb2:(n+1) * bytes≤(n+1) * 64:=Nat.mul_le_mul_left _ hb;refine wpListIn_append_own _ hgd s x t ho base e i z 1 bytes ht hi hz h1 h2 hzs (by decide) v n xs hs (hown.out.alloc _) ⟨w.heap.size,0,none⟩ 1 1 [y] hx rfl (cell_one_new _ _ _) (by simp [hy]) (by unfold maxLen;omega) (by omega) (by have:=hbase.out;simp;omega) ?_;intro v' w' r1 r2 _;have hg:w.grownBy w' v.ownBlock:=(World.grownBy_alloc w _ _).trans r2;exact h v' w' r1 hg ⟨hg.os,hg.tape,hg.output,hg.size,fun k hk=>hg.block k (by have:=hbase.out;omega) (fun e=>by have:=hown.out.lt k e.symm;omega)⟩
theorem row_ne_row {w:World} {base base' n n':Nat} {e e':TypeId} {v v':Value} {xs xs':List Value} (hne:e≠e') (h:w.ownsRow base e 1 v n xs) (h':w.ownsRow base' e' 1 v' n' xs'):v.ownBlock=none\/v.ownBlock≠v'.ownBlock:=by
 rcases h.2 with ⟨rfl,-⟩ | ⟨g,cap,cur,rfl,-,hb,-⟩
 ·exact .inl rfl
 ·right
  rcases h'.2 with ⟨rfl,-⟩ | ⟨g',cap',cur',rfl,-,hb',-⟩
  ·simp [Value.ownBlock]
  ·simp only [Value.ownBlock,ne_eq,Option.some.injEq];rintro rfl;rw [hb]at hb';injection hb' with hb'
   injection hb' with _ he
   exact hne he
theorem grownBy_of_below {A B:World} (h:Bl A B):A.grownBy B none:=⟨h.os,h.tape,h.output,h.size,fun k hk _=>h.block k hk⟩
theorem row_KpO {own:World->Nat->Prop} {A B:World} {base g n cap:Nat} {e:TypeId} {xs:List Value} (h:A.ownsRow base e 1 (.slice (some ⟨g,0,none⟩) n cap) n xs) (hk:KpO own A B) (ho:¬ own A g) :
 B.ownsRow base e 1 (.slice (some ⟨g,0,none⟩) n cap) n xs:=by
 refine⟨h.1,?_⟩
 rcases h.2 with ⟨h0,-⟩ | ⟨g',cap',cur,h0,hb,hg,rest⟩
 ·cases h0
 ·cases h0
  exact .inr ⟨g,cap,cur,rfl,hb,hk.cells _ _ _ _ hg ho,rest⟩
theorem measure_down {n k:Nat} (h:k<n):n - ((k:Int)+1).toNat<n - (k:Int).toNat:=by omega
theorem things1_seq {w0:World} {p:Nat} {M:WM} {Fw:Nat->Prop} {Bx n:Nat} (hW0:IsW w0 p M Fw) (hBx:w0.cell? ⟨Bx,0,none⟩=some (.pointer (some ⟨p,0,none⟩))) (own:World->Nat->Prop)
 (hown0:∀ W,Bl w0 W->∀ b,own W b->b<w0.heap.size)
 {β:Type} (f:β->Int × Th) (ys:List β) (hys:ys.map f=M.things) :
 SeqStopsK Fence.wide n Tryz.prog 224 #[.pointer (some ⟨Bx,0,none⟩)] (fun y:β=>#[.int .i64 (f y).1,.int .u8 (f y).2.kind]) (KpO own) (fun xs=>xs=ys) (fun pre=>pre <+: ys) M.things.length w0:=by
 intro l J Jx W hWb hJ hJx hY h0;have HW0:=(show Hid (IsW w0 p M Fw)from hW0);have HW:Hid (IsW W p M Fw):=hW0.below hWb;have hbx:W.cell? ⟨Bx,0,none⟩=some (.pointer (some ⟨p,0,none⟩)):=(hWb.cell (p:=⟨Bx,0,none⟩) (World.block_lt_of_cell? _ _ hBx)).trans hBx;have HWb:=(show Hid (Bl w0 W)from hWb);have HBx:Hid (∀ W',Bl W W'->W'.cell? ⟨Bx,0,none⟩=some (.pointer (some ⟨p,0,none⟩))):=fun W' hb=>(hb.cell (p:=⟨Bx,0,none⟩) (World.block_lt_of_cell? _ _ hbx)).trans hbx;have HJ:=(show Hid (AbidesFrom W.heap.size J)from hJ);have HY:=(show Hid _ from hY);have H0:=(show Hid (J [] W)from h0);have Ho:=(show Hid _ from hown0);have Hys:=(show Hid (ys.map f=M.things/\ys.length=M.things.length)from⟨hys,by rw [<- hys,List.length_map]⟩);clear hW0 hBx hWb hJ hY h0 hown0 hys;refine callsIn_of_wp Tryz.func224 rfl trivial ?_ rfl;simp only [Tryz.ntmps224,List.size_toArray,List.length_cons,List.length_nil,Nat.reduceAdd,Nat.reduceSub,Array.replicate_succ,Array.replicate_zero,List.push_toArray,List.append_toArray,List.nil_append,List.cons_append]
 gi_wp2_with fail
 refine⟨trivial,(fun h=>by cases h),(callsIn_wide.2 (none_W HW.out)).mono ?_⟩;rintro e _ ⟨rfl,rfl⟩
 gi_wp2_with fail
 refine⟨trivial,(fun h=>by cases h),(callsIn_wide.2 (refs_W HW.out)).mono ?_⟩;rintro e w1 ⟨g,cap,rfl,hrow,hb1⟩;have HR1:Hid (w1.ownsRow W.heap.size 25 1 (.slice (some ⟨g,0,none⟩) M.things.length cap) M.things.length ((M.things.map (·.1)).map (Value.int .i64))):=hrow;have HB1:=(show Hid (Bl W w1)from hb1);clear hrow hb1;have hlen:=HW.out.ok.len_le;have hlast:=HW.out.ok.last.2;have HN:Hid ((M.things.length:Int)≤1099511627776):=by show _≤_;omega
 have hg1:=HR1.out.lt g rfl;have HG1:=(show Hid (W.heap.size≤g/\g<w1.heap.size)from hg1);clear hlen hlast hg1
 gi_wp2_with fail
 gi_loopw [3,4,14] (fun v3 v4 vi wr=>∃ k:Nat,vi=.int .i64 k/\k≤M.things.length/\Hid (wr.ownsRow w1.heap.size 25 1 v3 k ((M.things.take k).map fun x=>Value.int .i64 x.1))/\Hid (wr.ownsRow w1.heap.size 22 1 v4 k ((M.things.take k).map fun x=>Value.int .u8 x.2.kind)) /\
  Hid (wr.ownsRow W.heap.size 25 1 (.slice (some ⟨g,0,none⟩) M.things.length cap) M.things.length ((M.things.map (·.1)).map (Value.int .i64)))/\Hid (Bl W wr)/\Hid (w1.heap.size≤wr.heap.size)) (fun _ _ vi _=>M.things.length - (intOf vi).toNat)
 case atStart=>exact⟨0,rfl,Nat.zero_le _,World.ownsRow_nil _ _ _ _,World.ownsRow_nil _ _ _ _,HR1.out,HB1.out,Nat.le_refl _⟩
 case round =>
  obtain⟨k,rfl,hk,H3,H4,HR,HB,HS⟩:=hrel
  by_cases hkm:k<M.things.length
  ·have hkz:(k:Int)<(M.things.length:Int):=by omega
   obtain⟨x,hx⟩:∃ x,M.things[k]? = some x:=⟨_,List.getElem?_eq_getElem hkm⟩;have hat:M.at x.1=some x.2:=HW.out.ok.at_of_mem (List.mem_of_getElem? hx);have Hat:=(show Hid (M.at x.1=some x.2)from hat);have Htk:Hid (M.things.take (k+1)=M.things.take k ++ [x]):=by show _=_;rw [List.take_add_one,hx];rfl
   have hcx:wr.cell? ⟨g,k,none⟩=some (.int .i64 x.1):=by
    have:=HR.out.cellAt k (by omega);rw [this];simp [hx]
   have Hk1:Hid ((k:Int)≤1099511627777):=by have:=HN.out;show _≤_;omega
   have hwx:=HW.out.ok.at_wf hat;have Hwx:=(show Hid _ from hwx);clear hx hat hwx;have hwk:wrap64 ((k:Int)+1)=(k:Int)+1:=by have:=HN.out;unfold wrap64;omega
   gi_wp2_with (first
    | (gi_at_builtin;refine append_oneI rfl _ _ 77 rfl w1.heap.size 25 (.int .i64 0) 8 Tryz.underlying77 infoRef rfl _ k _ rfl H3 (.int .i64 x.1) rfl rfl Hk1 (by decide) HS ?_;intro v3' w2 r1 r2 r3
       have HB2:Hid (Bl W w2):=HB.out.trans (r3.out.mono HB1.out.size);have q1:=HBx.out w2 HB2.out;have HV2:=(show Hid (∃ pa pc cg cc mg mc tb fb fn bl,WV w2 p M Fw pa pc cg cc mg mc tb fb fn bl)from HW.out.below HB2.out)
       obtain⟨tb,hc2,b0,hlk,hk0⟩:∃ tb,w2.cell? ⟨p,2,none⟩=some (.map (some tb))/\∃ b0,(Instr.lookup 137 (.map (some tb)) (.int .i64 x.1) false).run Tryz.prog w2=.ok (.pointer (some ⟨b0,0,none⟩)) w2/\w2.cell? ⟨b0,0,none⟩=some (.int .u8 x.2.kind):=by
        obtain⟨pa,pc,cg,cc,mg,mc,tb,fb,fn,bl,hV⟩:=HV2.out;have hlk:=hV.look Hwx.out;rw [Hat.out]at hlk;exact⟨tb,hV.c2,bl x.1,hlk,(thc_cell (hV.blk _ _ Hat.out).1).1⟩
       have H4':Hid (w2.ownsRow w1.heap.size 22 1 u4 k ((M.things.take k).map fun x=>Value.int .u8 x.2.kind)):=World.ownsRow.kept H4.out r2.out (row_ne_row (by decide) H4.out H3.out);have HR':Hid (w2.ownsRow W.heap.size 25 1 (.slice (some ⟨g,0,none⟩) M.things.length cap) M.things.length ((M.things.map (·.1)).map (Value.int .i64))):=World.ownsRow.kept HR.out r2.out (.inr (fun e=>by have:=H3.out.lt g e.symm;have:=HG1.out;omega))
       have HS2:Hid (w1.heap.size≤w2.heap.size):=Nat.le_trans HS.out r3.out.size)
    | (gi_at_builtin;refine append_oneI rfl _ _ 275 rfl w1.heap.size 22 (.int .u8 0) 1 Tryz.underlying275 infoKind rfl _ k _ rfl H4' (.int .u8 x.2.kind) rfl rfl Hk1 (by decide) HS2 ?_;intro v4' w3 s1 s2 s3))
   have HB3:Hid (Bl W w3):=HB2.out.trans (s3.out.mono HB1.out.size)
   have H3':Hid (w3.ownsRow w1.heap.size 25 1 v3' (k+1) ((M.things.take (k+1)).map fun x=>Value.int .i64 x.1)):=by
    show World.ownsRow _ _ _ _ _ _ _;rw [Htk.out,List.map_append];exact World.ownsRow.kept r1.out s2.out (row_ne_row (by decide) r1.out H4'.out)
   have H4'':Hid (w3.ownsRow w1.heap.size 22 1 v4' (k+1) ((M.things.take (k+1)).map fun x=>Value.int .u8 x.2.kind)):=by
    show World.ownsRow _ _ _ _ _ _ _;rw [Htk.out,List.map_append];exact s1.out
   have HR'':Hid (w3.ownsRow W.heap.size 25 1 (.slice (some ⟨g,0,none⟩) M.things.length cap) M.things.length ((M.things.map (·.1)).map (Value.int .i64))):=World.ownsRow.kept HR'.out s2.out (.inr (fun e=>by have:=H4'.out.lt g e.symm;have:=HG1.out;omega));have HS3:Hid (w1.heap.size≤w3.heap.size):=Nat.le_trans HS2.out s3.out.size
   go_roundw
   case rel=>exact⟨k+1,by go_num,by omega,H3',H4'',HR'',HB3,HS3⟩
   case measure=>rw [hwk];exact measure_down hkm
  ·have hkz:¬ (k:Int)<(M.things.length:Int):=by omega
   obtain rfl:k=M.things.length:=by omega
   rw [List.take_length]at H3 H4;have HB1':=HB
   rcases H3.out.2 with ⟨rfl,h30⟩ | ⟨g3,cap3,cur3,rfl,hl3,hb3,ha3⟩
   ·have Hl0:Hid (ys = []):=List.eq_nil_of_length_eq_zero (Hys.out.2.trans h30);have hJr:Hid (J [] wr):=HJ.out [] W wr none H0.out (grownBy_of_below HB.out) (fun r h=>by cases h);have hkz0:¬ (0:Int)<((M.things.length:Nat):Int):=by omega
    clear h30 hkz
    gi_wp2_with fail
    gi_loopw [37] (fun vi w2=>vi=.int .i64 0/\Hid (J [] w2)) (fun _ _=>0)
    case atStart=>exact⟨rfl,hJr⟩
    case round =>
     obtain⟨rfl,hJs⟩:=hrel
     gi_wp2_with fail
     go_end0
     exact⟨⟨_,rfl⟩,.inl (by first | exact⟨ys,rfl,by rw [Hl0.out];exact hJs⟩ | (rw [Hl0.out];exact hJs))⟩
   ·rcases H4.out.2 with ⟨rfl,h40⟩ | ⟨g4,cap4,cur4,rfl,hl4,hb4,ha4⟩
    ·have Hl0:Hid (ys = []):=List.eq_nil_of_length_eq_zero (Hys.out.2.trans h40);have hJr:Hid (J [] wr):=HJ.out [] W wr none H0.out (grownBy_of_below HB.out) (fun r h=>by cases h);have hkz0:¬ (0:Int)<((M.things.length:Nat):Int):=by omega
     clear h40 hkz hl3 hb3 ha3
     gi_wp2_with fail
     gi_loopw [37] (fun vi w2=>vi=.int .i64 0/\Hid (J [] w2)) (fun _ _=>0)
     case atStart=>exact⟨rfl,hJr⟩
     case round =>
      obtain⟨rfl,hJs⟩:=hrel
      gi_wp2_with fail
      go_end0
      exact⟨⟨_,rfl⟩,.inl (by first | exact⟨ys,rfl,by rw [Hl0.out];exact hJs⟩ | (rw [Hl0.out];exact hJs))⟩
    ·have hg3:=H3.out.lt g3 rfl;have hg4:=H4.out.lt g4 rfl;have HG3:=(show Hid (w1.heap.size≤g3/\g3<wr.heap.size)from hg3);have HG4:=(show Hid (w1.heap.size≤g4/\g4<wr.heap.size)from hg4);have hJr:Hid (J [] wr):=HJ.out [] W wr none H0.out (grownBy_of_below HB.out) (fun r h=>by cases h);have Ho1:Hid (∀ b,own wr b->b<w0.heap.size\/wr.heap.size≤b):=fun b hb=>.inl (Ho.out wr (HWb.out.trans (HB.out.mono HWb.out.size)) b hb);clear hl3 hb3 ha3 hl4 hb4 ha4 hg3 hg4 hkz
     gi_wp2_with fail
     gi_loopw [37] (fun vi w2=>∃ k:Nat,vi=.int .i64 k/\k≤M.things.length/\Hid (J (ys.take k) w2)/\Hid (w2.ownsRow w1.heap.size 25 1 (.slice (some ⟨g3,0,none⟩) M.things.length cap3) M.things.length (M.things.map fun x=>.int .i64 x.1)) /\
      Hid (w2.ownsRow w1.heap.size 22 1 (.slice (some ⟨g4,0,none⟩) M.things.length cap4) M.things.length (M.things.map fun x=>.int .u8 x.2.kind))/\Hid (∀ b,own w2 b->b<w0.heap.size\/wr.heap.size≤b)/\Hid (wr.heap.size≤w2.heap.size)) (fun vi _=>M.things.length - (intOf vi).toNat)
     case atStart=>exact⟨0,rfl,Nat.zero_le _,hJr,H3.out,H4.out,Ho1.out,Nat.le_refl _⟩
     case round =>
      obtain⟨k,rfl,hk2,HJk,K3,K4,Ho2,HS2⟩:=hrel
      by_cases hkm2:k<M.things.length
      ·have hkz:(k:Int)<(M.things.length:Int):=by omega
       obtain⟨y,hy0⟩:∃ y,ys[k]? = some y:=⟨_,List.getElem?_eq_getElem (by rw [Hys.out.2];exact hkm2)⟩;have Htk:Hid (ys.take (k+1)=ys.take k ++ [y]):=by show _=_;rw [List.take_add_one,hy0];rfl
       have hx:M.things[k]? = some (f y):=by rw [<- Hys.out.1,List.getElem?_map,hy0];rfl
       have hwk:wrap64 ((k:Int)+1)=(k:Int)+1:=by have:=HN.out;unfold wrap64;omega
       have hc3:wr.cell? ⟨g3,k,none⟩=some (.int .i64 (f y).1):=by
        have:=K3.out.cellAt k (by omega);rw [this];simp [hx]
       have hc4:wr.cell? ⟨g4,k,none⟩=some (.int .u8 (f y).2.kind):=by
        have:=K4.out.cellAt k (by omega);rw [this];simp [hx]
       obtain⟨fn,tmps,assign,body,hy,hR⟩:=HY.out (ys.take k) y wr HJk.out (by rw [List.length_take,Hys.out.2];omega);clear hx hy0
       gi_wp2_with fail
       refine⟨(fun h=>by cases h),hR.mono ?_⟩;rintro e W3 (⟨rfl,hJ3,hk3⟩ | ⟨rfl,hJx3⟩)
       ·gi_wp2_with fail
        go_roundw
        case rel =>
         refine⟨k+1,by go_num,by omega,by show J _ _;rw [Htk.out];exact hJ3,row_KpO K3.out hk3 ?_,row_KpO K4.out hk3 ?_,?_,Nat.le_trans HS2.out hk3.size⟩
         ·intro hb;have:=Ho2.out _ hb;have:=HG3.out;have:=HB1.out.size;have:=HWb.out.size;omega
         ·intro hb;have:=Ho2.out _ hb;have:=HG4.out;have:=HB1.out.size;have:=HWb.out.size;omega
         ·intro b hb
          rcases hk3.own' b hb with h | h
          ·exact Ho2.out b h
          ·have:=HS2.out;exact .inr (by omega)
        case measure=>rw [hwk];exact measure_down hkm2
       ·gi_wp2_with fail
        refine bodyPost_ret (results_none rfl _ _ _) rfl ?_;exact⟨⟨_,rfl⟩,.inr ⟨ys.take k ++ [y],by rw [<- Htk.out];exact List.take_prefix _ _,hJx3⟩⟩
      ·have hkz:¬ (k:Int)<(M.things.length:Int):=by omega
       obtain rfl:k=M.things.length:=by omega
       gi_wp2_with fail
       go_end0
       exact⟨⟨_,rfl⟩,.inl (by have:=HJk.out;rw [<- Hys.out.2,List.take_length]at this;first | exact this | exact⟨ys,rfl,this⟩)⟩
end
section
attribute [local go_sem] Oper.semAt_some
theorem boxed_what (w1:World) (xs:Array Value) (hs:xs.size=16) (h1:xs.all (·.oneCell')=true) :
 (stW (.pointer (some ⟨w1.heap.size,0,none⟩)) (.agg xs)).run Tryz.prog (w1.alloc (.cells (wr 0 0 0 0 0 0 0 0 0 false) 46))=.ok .skip ((w1.alloc (.cells (wr 0 0 0 0 0 0 0 0 0 false) 46)).setRow w1.heap.size xs) /\
 Bl w1 ((w1.alloc (.cells (wr 0 0 0 0 0 0 0 0 0 false) 46)).setRow w1.heap.size xs) /\
 ((w1.alloc (.cells (wr 0 0 0 0 0 0 0 0 0 false) 46)).setRow w1.heap.size xs).heap[w1.heap.size]? = some (.cells xs 46 (0,0)) :=
 ⟨storeWhat_blk (blk_new w1 _) rfl hs h1,Below.setRow ((Below.refl _ _).alloc (Nat.le_refl _) _) (Nat.le_refl _) _,heap_setRow_at (blk_new w1 _)⟩
theorem Things_W (w:World) (p:Nat):Calls Tryz.prog 155 #[.pointer (some ⟨p,0,none⟩)] w fun e w'=>e=.returned (.func (.func 224) #[] #[.pointer (some ⟨w.heap.size,0,none⟩)])/\w'=w.alloc (.cells #[.pointer (some ⟨p,0,none⟩)] 31):=by
 go_enter Tryz.func155,Tryz.ntmps155
 go_wp2
 go_ret
 exact⟨rfl,rfl⟩
theorem boxed_what' (w1:World) (xs:Array Value) (hs:xs.size=16) (h1:xs.all (·.oneCell')=true) :
 ∃ w2,(stW (.pointer (some ⟨w1.heap.size,0,none⟩)) (.agg xs)).run Tryz.prog (w1.alloc (.cells (wr 0 0 0 0 0 0 0 0 0 false) 46))=.ok .skip w2 /\
   Bl w1 w2/\w2.heap[w1.heap.size]? = some (.cells xs 46 (0,0))/\w2.heap.size=w1.heap.size+1:=by
 obtain⟨a,b,c⟩:=boxed_what w1 xs hs h1;exact⟨_,a,b,c,by simp⟩
def boxOwn (B:Nat) (W:World) (b:Nat):Prop:=b=B\/∃ v,W.cell? ⟨B,0,none⟩=some v/\v.ownBlock=some b
theorem row_from {W W':World} {row:Option Nat} {base:Nat} {e:TypeId} {v:Value} {k:Nat} {xs:List Value} (h:W.ownsRow base e 1 v k xs) (hg:W.grownBy W' row)
 (hr:∀ r,row=some r->∃ o:Obj,W.heap[r]? = some o/\o.isCells=false):W'.ownsRow base e 1 v k xs:=by
 refine h.kept hg ?_
 rcases h.2 with ⟨rfl,_⟩ | ⟨g,cap,cur,rfl,_,hgb,_⟩
 ·exact .inl rfl
 ·refine .inr fun e'=>?_;obtain⟨o,ho,hc⟩:=hr g e'.symm;rw [hgb]at ho
  cases ho
  cases hc
theorem boxOwn_put {B n:Nat} (hB:B<n) (W:World) (l:Nat) (o o':Obj) (hl:n≤l) (ho:W.heap[l]? = some o) (hc:o.isCells=false):KpO (boxOwn B) W (W.putObj l o') where
 size:=by simp
 cells:=fun b cs e fr hb _=>(World.putObj_heap_other (fun h=>by subst h;rw [hb]at ho;cases ho;cases hc)).trans hb
 own':=fun b hb=>by
  rcases hb with rfl | ⟨v,hv,hb⟩
  ·exact .inl (.inl rfl)
  ·have:(W.putObj l o').cell? ⟨B,0,none⟩=W.cell? ⟨B,0,none⟩:=World.cell?_of_block (World.putObj_heap_other (by show B≠l;omega));exact .inl (.inr ⟨v,this ▸ hv,hb⟩)
theorem keepsOthers_of_below {A B:World} (h:Bl A B):KeepsOthers A B:=⟨h.size,fun x _ ho _=>(h.block x (blk_lt ho)).trans ho⟩
theorem KpO_of_below {B:Nat} {W W':World} (hB:B<W.heap.size) (h:Bl W W'):KpO (boxOwn B) W W' where
 size:=h.size
 cells:=fun b _ _ _ hb _=>(h.block b (blk_lt hb)).trans hb
 own':=fun b hb=>by
  rcases hb with rfl | ⟨v,hv,hb⟩
  ·exact .inl (.inl rfl)
  ·have:W'.cell? ⟨B,0,none⟩=W.cell? ⟨B,0,none⟩:=World.cell?_of_block (h.block B hB);exact .inl (.inr ⟨v,this ▸ hv,hb⟩)
theorem row_base {W:World} {base base':Nat} {e:TypeId} {v:Value} {k:Nat} {xs:List Value} (hb:base'≤base) (h:W.ownsRow base e 1 v k xs):W.ownsRow base' e 1 v k xs:=by
 refine⟨h.1,?_⟩
 rcases h.2 with h0 | ⟨g,cap,cur,h0,h1,h2⟩
 ·exact .inl h0
 ·exact .inr ⟨g,cap,cur,h0,Nat.le_trans hb h1,h2⟩
end
end Go.Proofs.YthaliljaglldjaaGreat
namespace Go.Proofs.YthaliljaglldjaaGreat
set_option maxHeartbeats 16000000
set_option maxRecDepth 100000
open Go.RowKit Go.ChangeMaps Go.MapKept
section
def refsN:Nat->Val->List Int
 | 0,v=>if v.kind=4 then [v.r]else []
 | n+1,v=>(if v.kind=4 then [v.r]else []) ++ v.l.flatMap (refsN n)
theorem refsN_le:∀ {n p q:Nat} {v:Val},takeV n p v=some q->(refsN n v).length+q≤p:=by
 intro n
 induction n with
 | zero =>
   intro p q v h;have:=takeV_lt h;unfold refsN;split <;> simp <;> omega
 | succ n ih =>
   intro p q v h;have hlt:=takeV_lt h
   by_cases hl:v.l = []
   ·unfold refsN;rw [hl];split <;> simp <;> omega
   have hl0:v.l.length≠0:=fun e=>hl (List.length_eq_zero_iff.1 e)
   cases p with
   | zero=>cases h
   | succ p =>
     have hno:∀ {a b c:Option Nat} {nn r:Int} {s:ByteArray},(if chk nn s r v.l.length then a else none)=some q->False:=fun {a b c nn r s} h=>by
      split at h
      ·exact hl0 (chk_len (by assumption))
      ·cases h
     by_cases h0:v.kind=0
     ·rw [tk0 h0]at h;exact(hno (b:=none) (c:=none) h).elim
     by_cases h1:v.kind=1
     ·rw [tk1 h1]at h;exact(hno (b:=none) (c:=none) h).elim
     by_cases h2:v.kind=2
     ·rw [tk2 h2]at h;split at h
      ·cases h
      ·exact(hno (b:=none) (c:=none) h).elim
     by_cases h4:v.kind=4
     ·rw [tk4 h4]at h;split at h
      ·cases h
      ·exact(hno (b:=none) (c:=none) h).elim
     by_cases h3:v.kind=3
     ·by_cases hl':v.l.length > p
      ·rw [tk3l h3 hl']at h
       cases h
      ·rw [tk3 h3 hl']at h
       have key:∀ (l:List Val) (p q:Nat),takeL n p l=some q->(l.flatMap (refsN n)).length+q≤p:=by
        intro l
        induction l with
        | nil =>
          intro p q h;simp [takeL]at h;simp;omega
        | cons x l ihl =>
          intro p q h;simp only [takeL,List.foldlM_cons,bind,Option.bind_eq_some_iff]at h;obtain⟨a,h1,h2⟩:=h;have e1:=ih h1;have e2:=ihl a q h2;simp only [List.flatMap_cons,List.length_append];omega
       split at h
       ·cases h
       ·rename_i q' hq
        have:=key _ _ _ hq;split at h
        ·cases h
         unfold refsN;rw [if_neg h4];simp only [List.nil_append];omega
        ·cases h
     ·rw [tkx h0 h1 h2 h3 h4]at h
      cases h
def RowBox (w:World) (base B:Nat) (xs:List Int):Prop :=
 ∃ v,w.heap[B]? = some (.cells #[v] 77 (0,0))/\w.ownsRow base 25 1 v xs.length (xs.map (Value.int .i64))
def RefFr (w w':World):Prop:=w.heap.size≤w'.heap.size/\∀ (b:Nat) (cs:Array Value) (e:TypeId) (fr:Nat × Nat),w.heap[b]? = some (.cells cs e fr)->e≠25->e≠77->w'.heap[b]? = some (.cells cs e fr)
def PlAt (w:World) (pl:Value) (n:Nat):Prop:=∃ pa c,pl=.slice pa n c/\n≤c/\(pa=none->n=0/\c=0)/\∀ a,pa=some a->a.spot=none/\(n=0\/∃ cs fr,w.heap[a.block]? = some (.cells cs 3 fr)/\∀ j,j<n->∃ x,w.cell? ⟨a.block,a.off+j,none⟩=some (.int .i64 x))
end
end Go.Proofs.YthaliljaglldjaaGreat
namespace Go.Proofs.YthaliljaglldjaaGreat
set_option maxHeartbeats 16000000
set_option maxRecDepth 100000
open Go.RowKit
section
def valOf (o:Oper) (a:Act):Value:=match o.dst with | some d=>a.tmps.getD d undef | none=>undef
def blkOf:Value->Option Nat
 | .map b=>b
 | .slice (some a) _ _=>some a.block
 | .pointer (some a)=>some a.block
 | _=>none
structure Given (l:List Oper) (Φ:Nat->Value->World->Prop) (cre:Nat->Bool) (a0:Act) (o:Oper) (a:Act) (w:World):Prop where
 dep:∀ e ∈ o.after,Region.binds .any e=true->∀ oj,l[e.on]? = some oj->Φ e.on (valOf oj a) w
 fr:∀ t,(∀ oj ∈ l,oj.dst≠some t)->a.tmps.getD t undef=a0.tmps.getD t undef
 sz:a.tmps.size=a0.tmps.size
 ne:∀ e ∈ o.after,∀ f ∈ o.after,Region.binds .any e=true->Region.binds .any f=true->e.on≠f.on->∀ oi oj,l[e.on]? = some oi->l[f.on]? = some oj->cre e.on=true->cre f.on=true->blkOf (valOf oi a)≠blkOf (valOf oj a)
def growB (l:List Oper) (n:Nat):Bool :=
 (l.zipIdx.all fun x=>x.1.guard.isNone && (x.1.after.all fun e=>decide (e.on<x.2)) && (match x.1.dst with | some d=>decide (d<n) | none=>true)) &&
 (l.zipIdx.all fun x=>l.zipIdx.all fun y=>decide (x.2=y.2) || x.1.dst.isNone || decide (x.1.dst≠y.1.dst))
structure GInv (l:List Oper) (R:World->World->Prop) (Φ:Nat->Value->World->Prop) (cre:Nat->Bool) (C:World->Prop) (a0:Act) (L:Array Bool) (a:Act) (w:World):Prop where
 lsz:L.size=l.length
 c:C w
 sz:a.tmps.size=a0.tmps.size
 df:a.defers=a0.defers
 fr:∀ t,(∀ oj ∈ l,oj.dst≠some t)->a.tmps.getD t undef=a0.tmps.getD t undef
 phi:∀ (i:Nat) (o:Oper),l[i]? = some o->L.getD i false=true->Φ i (valOf o a) w
 blk:∀ (i:Nat) (o:Oper),l[i]? = some o->L.getD i false=true->cre i=true->∃ b,blkOf (valOf o a)=some b/\b<w.heap.size
 ne:∀ (i j:Nat) (oi oj:Oper),i≠j->l[i]? = some oi->l[j]? = some oj->L.getD i false=true->L.getD j false=true->cre i=true->cre j=true->blkOf (valOf oi a)≠blkOf (valOf oj a)
theorem put_getD (a:Act) (d:Nat) (v:Value) (t:Nat) (h:t≠d):(a.put (some d) v).tmps.getD t undef=a.tmps.getD t undef:=by
 have:¬ d=t:=fun e=>h e.symm;simp only [Act.put,Array.getD_eq_getD_getElem?,Array.getElem?_setIfInBounds,if_neg this]
theorem put_getD_same (a:Act) (d:Nat) (v:Value) (h:d<a.tmps.size):(a.put (some d) v).tmps.getD d undef=v:=by
 simp [Act.put,Array.getD_eq_getD_getElem?,h]
theorem wp_region_grow {P:Program} {Q:Exit->Act->World->Prop} {id:Nat} {l:List Oper} {a0:Act} {w0:World} (hm:P.follows .mixedOrders=true) (hB:growB l a0.tmps.size=true)
 (R:World->World->Prop) (Φ:Nat->Value->World->Prop) (cre:Nat->Bool) (C:World->Prop)
 (hΦ:∀ j v w w',R w w'->Φ j v w->Φ j v w') (hRs:∀ w w',R w w'->w.heap.size≤w'.heap.size) (hC0:C w0.drew) (hC:∀ w w',C w->R w w'->C w')
 (step:∀ (i:Nat) (o:Oper) (a:Act) (w:World),l[i]? = some o->C w->Given l Φ cre a0 o a w ->
  o.wp P a w (fun a' w'=>∃ v,a'=a.put o.dst v/\R w w'/\Φ i (o.dst.elim undef fun _=>v) w'/\(cre i=true->o.dst.isSome=true/\∃ b,blkOf v=some b/\w.heap.size≤b/\b<w'.heap.size)) Q)
 (done:∀ a w,C w->a.defers=a0.defers->a.tmps.size=a0.tmps.size->(∀ t,(∀ oj ∈ l,oj.dst≠some t)->a.tmps.getD t undef=a0.tmps.getD t undef)->(∀ (i:Nat) (o:Oper),l[i]? = some o->Φ i (valOf o a) w) ->
  (∀ (i j:Nat) (oi oj:Oper),i≠j->l[i]? = some oi->l[j]? = some oj->cre i=true->cre j=true->blkOf (valOf oi a)≠blkOf (valOf oj a))->Q .normal a w) :
 (Code.region id l.toArray true).wp P Q a0 w0:=by
 simp only [growB,Bool.and_eq_true]at hB;obtain⟨hB1,hB2⟩:=hB
 have at1:∀ (i:Nat) (o:Oper),l[i]? = some o->o.guard=none/\(∀ e ∈ o.after,e.on<i)/\∀ d,o.dst=some d->d<a0.tmps.size:=fun i o ho=>by
  have:=List.all_eq_true.1 hB1 (o,i) (List.mem_zipIdx_iff_getElem?.2 ho);simp only [Bool.and_eq_true,Option.isNone_iff_eq_none,Array.all_eq_true_iff_forall_mem,decide_eq_true_eq]at this;obtain⟨⟨h1,h2⟩,h3⟩:=this;exact⟨h1,h2,fun d hd=>by rw [hd]at h3;simpa using h3⟩
 have at2:∀ (i j:Nat) (oi oj:Oper),i≠j->l[i]? = some oi->l[j]? = some oj->∀ d,oi.dst=some d->oj.dst≠some d:=fun i j oi oj hne hi hj d hd=>by
  have h1:=List.all_eq_true.1 hB2 (oi,i) (List.mem_zipIdx_iff_getElem?.2 hi);have h2:=List.all_eq_true.1 h1 (oj,j) (List.mem_zipIdx_iff_getElem?.2 hj);simp only [Bool.or_eq_true,decide_eq_true_eq,Option.isNone_iff_eq_none]at h2
  rcases h2 with (h2 | h2) | h2
  ·exact absurd h2 hne
  ·rw [hd]at h2;cases h2
  ·rw [hd]at h2;exact fun e=>h2 e.symm
 refine wp_region_inv hm (GInv l R Φ cre C a0) (fun i o ho=>(at1 i o (by simpa using ho)).2.1) ?_ ?_ ?_
 ·exact {
   lsz:=by simp
   c:=hC0
   sz:=rfl
   df:=rfl
   fr:=fun t _=>rfl
   phi:=fun i o _ h=>by rw [getD_replicate_false]at h;cases h
   blk:=fun i o _ h=>by rw [getD_replicate_false]at h;cases h
   ne:=fun i j oi oj _ _ _ h=>by rw [getD_replicate_false]at h;cases h }
 ·intro L a w i o hI ho hL hdep;have ho':l[i]? = some o:=by simpa using ho
  obtain⟨hg,-,hd⟩:=at1 i o ho';have hwant:Region.wanted o (yielded l.toArray a.tmps)=true:=by simp [Region.wanted,hg]
  rw [if_pos hwant];have hil:i<L.size:=by rw [hI.lsz];exact(List.getElem?_eq_some_iff.1 ho').1
  refine Oper.wp_mono ?_ (step i o a w ho' hI.c ⟨fun e he hb oj hj=>hI.phi _ _ hj (hdep e he hb),hI.fr,hI.sz,fun e he f hf hbe hbf hne oi oj hi hj hci hcj=>hI.ne _ _ _ _ hne hi hj (hdep e he hbe) (hdep f hf hbf) hci hcj⟩);rintro a' w' ⟨v,rfl,hR,hv,hcr⟩
  have vother:∀ (j:Nat) (oj:Oper),j≠i->l[j]? = some oj->valOf oj (a.put o.dst v)=valOf oj a:=fun j oj hj hoj=>by
   cases hdo:o.dst with
   | none=>rfl
   | some d =>
     unfold valOf
     cases hdj:oj.dst with
     | none=>rfl
     | some t =>
       have:=at2 i j o oj (Ne.symm hj) ho' hoj d hdo;exact put_getD a d v t (fun e=>this (by rw [hdj,e]))
  have vself:valOf o (a.put o.dst v)=o.dst.elim undef fun _=>v:=by
   unfold valOf
   cases hdo:o.dst with
   | none=>rfl
   | some d=>exact put_getD_same a d v (by rw [hI.sz];exact hd d hdo)
  have lold:∀ j,j≠i->(L.setIfInBounds i true).getD j false=true->L.getD j false=true:=fun j hj h=>by
   rwa [getD_set_ne false (Ne.symm hj)]at h
  exact {
   lsz:=by simpa using hI.lsz
   c:=hC _ _ hI.c hR
   sz:=by
    rw [<- hI.sz]
    cases o.dst with
    | none=>rfl
    | some d=>simp [Act.put]
   df:=by
    rw [<- hI.df]
    cases o.dst <;> rfl
   fr:=fun t ht=>by
    rw [<- hI.fr t ht]
    cases hdo:o.dst with
    | none=>rfl
    | some d=>exact put_getD a d v t (fun e=>ht o (List.mem_of_getElem? ho') (by rw [hdo,e]))
   phi:=fun j oj hj hl=>by
    by_cases e:j=i
    ·subst e;rw [ho']at hj
     cases hj
     rw [vself];exact hv
    ·rw [vother j oj e hj];exact hΦ _ _ _ _ hR (hI.phi j oj hj (lold j e hl))
   blk:=fun j oj hj hl hc=>by
    by_cases e:j=i
    ·subst e;rw [ho']at hj
     cases hj
     obtain⟨h1,b,h2,h3,h4⟩:=hcr hc;rw [vself];obtain⟨d,hd'⟩:=Option.isSome_iff_exists.1 h1;rw [hd'];exact⟨b,h2,h4⟩
    ·rw [vother j oj e hj];obtain⟨b,h2,h3⟩:=hI.blk j oj hj (lold j e hl) hc;exact⟨b,h2,Nat.lt_of_lt_of_le h3 (hRs _ _ hR)⟩
   ne:=fun j k oj ok hne hj hk hlj hlk hcj hck=>by
    have key:∀ (j:Nat) (oj:Oper),j≠i->l[j]? = some oj->L.getD j false=true->cre j=true->cre i=true->blkOf (valOf oj a)≠blkOf (valOf o (a.put o.dst v)):=fun j oj hj hoj hlj hcj hci=>by
     obtain⟨b,h2,h3⟩:=hI.blk j oj hoj hlj hcj;obtain⟨h1,b',h2',h3',h4'⟩:=hcr hci;obtain⟨d,hd'⟩:=Option.isSome_iff_exists.1 h1;rw [vself,hd',h2];show some b≠blkOf v;rw [h2'];simp;omega
    by_cases e:j=i
    ·subst e;rw [ho']at hj
     cases hj
     rw [vother k ok (Ne.symm hne) hk];exact(key k ok (Ne.symm hne) hk (lold k (Ne.symm hne) hlk) hck hcj).symm
    ·by_cases e':k=i
     ·subst e';rw [ho']at hk
      cases hk
      rw [vother j oj e hj];exact key j oj e hj (lold j e hlj) hcj hck
     ·rw [vother j oj e hj,vother k ok e' hk]
      exact hI.ne j k oj ok hne hj hk (lold j e hlj) (lold k e' hlk) hcj hck }
 ·intro L a w hI hall
  have hl:∀ (i:Nat) (o:Oper),l[i]? = some o->L.getD i false=true:=fun i o ho=>by
   have hi:=(List.getElem?_eq_some_iff.1 ho).1;have h1:=hall i (by simpa using hi);have:i<L.size:=by rw [hI.lsz];exact hi
   simpa [Array.getD,this]using h1
  exact done a w hI.c hI.df hI.sz hI.fr (fun i o ho=>hI.phi i o ho (hl i o ho)) (fun i j oi oj hne hi hj=>hI.ne i j oi oj hne hi hj (hl i oi hi) (hl j oj hj))
end
section
theorem grow_at {l:List Oper} {n:Nat} (hB:growB l n=true):(∀ (i:Nat) (o:Oper),l[i]? = some o->o.guard=none/\(∀ e ∈ o.after,e.on<i)/\∀ d,o.dst=some d->d<n) /\
 (∀ (i j:Nat) (oi oj:Oper),i≠j->l[i]? = some oi->l[j]? = some oj->∀ d,oi.dst=some d->oj.dst≠some d):=by
 simp only [growB,Bool.and_eq_true]at hB;obtain⟨hB1,hB2⟩:=hB
 have at1:∀ (i:Nat) (o:Oper),l[i]? = some o->o.guard=none/\(∀ e ∈ o.after,e.on<i)/\∀ d,o.dst=some d->d<n:=fun i o ho=>by
  have:=List.all_eq_true.1 hB1 (o,i) (List.mem_zipIdx_iff_getElem?.2 ho);simp only [Bool.and_eq_true,Option.isNone_iff_eq_none,Array.all_eq_true_iff_forall_mem,decide_eq_true_eq]at this;obtain⟨⟨h1,h2⟩,h3⟩:=this;exact⟨h1,h2,fun d hd=>by rw [hd]at h3;simpa using h3⟩
 have at2:∀ (i j:Nat) (oi oj:Oper),i≠j->l[i]? = some oi->l[j]? = some oj->∀ d,oi.dst=some d->oj.dst≠some d:=fun i j oi oj hne hi hj d hd=>by
  have h1:=List.all_eq_true.1 hB2 (oi,i) (List.mem_zipIdx_iff_getElem?.2 hi);have h2:=List.all_eq_true.1 h1 (oj,j) (List.mem_zipIdx_iff_getElem?.2 hj);simp only [Bool.or_eq_true,decide_eq_true_eq,Option.isNone_iff_eq_none]at h2
  rcases h2 with (h2 | h2) | h2
  ·exact absurd h2 hne
  ·rw [hd]at h2;cases h2
  ·rw [hd]at h2;exact fun e=>h2 e.symm
 exact⟨at1,at2⟩
theorem grow_step {P:Program} {Q:Exit->Act->World->Prop} {l:List Oper} {a0:Act} (hB:growB l a0.tmps.size=true)
 (R:World->World->Prop) (Φ:Nat->Value->World->Prop) (cre:Nat->Bool) (C:World->Prop)
 (hΦ:∀ j v w w',R w w'->Φ j v w->Φ j v w') (hRs:∀ w w',R w w'->w.heap.size≤w'.heap.size) (hC:∀ w w',C w->R w w'->C w')
 {i:Nat} {o:Oper} {a:Act} {w:World} {L:Array Bool}
 (step:C w->Given l Φ cre a0 o a w ->
  o.wp P a w (fun a' w'=>∃ v,a'=a.put o.dst v/\R w w'/\Φ i (o.dst.elim undef fun _=>v) w'/\(cre i=true->o.dst.isSome=true/\∃ b,blkOf v=some b/\w.heap.size≤b/\b<w'.heap.size)) Q)
 (hI:GInv l R Φ cre C a0 L a w) (ho:l[i]? = some o) (hdep:∀ e ∈ o.after,Region.binds .any e=true->L.getD e.on false=true) :
 o.wp P a w (GInv l R Φ cre C a0 (L.setIfInBounds i true)) Q:=by
 obtain⟨at1,at2⟩:=grow_at hB;have ho':=ho;obtain⟨-,-,hd⟩:=at1 i o ho';have hil:i<L.size:=by rw [hI.lsz];exact(List.getElem?_eq_some_iff.1 ho').1
 refine Oper.wp_mono ?_ (step hI.c ⟨fun e he hb oj hj=>hI.phi _ _ hj (hdep e he hb),hI.fr,hI.sz,fun e he f hf hbe hbf hne oi oj hi hj hci hcj=>hI.ne _ _ _ _ hne hi hj (hdep e he hbe) (hdep f hf hbf) hci hcj⟩);rintro a' w' ⟨v,rfl,hR,hv,hcr⟩
 have vother:∀ (j:Nat) (oj:Oper),j≠i->l[j]? = some oj->valOf oj (a.put o.dst v)=valOf oj a:=fun j oj hj hoj=>by
  cases hdo:o.dst with
  | none=>rfl
  | some d =>
    unfold valOf
    cases hdj:oj.dst with
    | none=>rfl
    | some t =>
      have:=at2 i j o oj (Ne.symm hj) ho' hoj d hdo;exact put_getD a d v t (fun e=>this (by rw [hdj,e]))
 have vself:valOf o (a.put o.dst v)=o.dst.elim undef fun _=>v:=by
  unfold valOf
  cases hdo:o.dst with
  | none=>rfl
  | some d=>exact put_getD_same a d v (by rw [hI.sz];exact hd d hdo)
 have lold:∀ j,j≠i->(L.setIfInBounds i true).getD j false=true->L.getD j false=true:=fun j hj h=>by
  rwa [getD_set_ne false (Ne.symm hj)]at h
 exact {
  lsz:=by simpa using hI.lsz
  c:=hC _ _ hI.c hR
  sz:=by
   rw [<- hI.sz]
   cases o.dst with
   | none=>rfl
   | some d=>simp [Act.put]
  df:=by
   rw [<- hI.df]
   cases o.dst <;> rfl
  fr:=fun t ht=>by
   rw [<- hI.fr t ht]
   cases hdo:o.dst with
   | none=>rfl
   | some d=>exact put_getD a d v t (fun e=>ht o (List.mem_of_getElem? ho') (by rw [hdo,e]))
  phi:=fun j oj hj hl=>by
   by_cases e:j=i
   ·subst e;rw [ho']at hj
    cases hj
    rw [vself];exact hv
   ·rw [vother j oj e hj];exact hΦ _ _ _ _ hR (hI.phi j oj hj (lold j e hl))
  blk:=fun j oj hj hl hc=>by
   by_cases e:j=i
   ·subst e;rw [ho']at hj
    cases hj
    obtain⟨h1,b,h2,h3,h4⟩:=hcr hc;rw [vself];obtain⟨d,hd'⟩:=Option.isSome_iff_exists.1 h1;rw [hd'];exact⟨b,h2,h4⟩
   ·rw [vother j oj e hj];obtain⟨b,h2,h3⟩:=hI.blk j oj hj (lold j e hl) hc;exact⟨b,h2,Nat.lt_of_lt_of_le h3 (hRs _ _ hR)⟩
  ne:=fun j k oj ok hne hj hk hlj hlk hcj hck=>by
   have key:∀ (j:Nat) (oj:Oper),j≠i->l[j]? = some oj->L.getD j false=true->cre j=true->cre i=true->blkOf (valOf oj a)≠blkOf (valOf o (a.put o.dst v)):=fun j oj hj hoj hlj hcj hci=>by
    obtain⟨b,h2,h3⟩:=hI.blk j oj hoj hlj hcj;obtain⟨h1,b',h2',h3',h4'⟩:=hcr hci;obtain⟨d,hd'⟩:=Option.isSome_iff_exists.1 h1;rw [vself,hd',h2];show some b≠blkOf v;rw [h2'];simp;omega
   by_cases e:j=i
   ·subst e;rw [ho']at hj
    cases hj
    rw [vother k ok (Ne.symm hne) hk];exact(key k ok (Ne.symm hne) hk (lold k (Ne.symm hne) hlk) hck hcj).symm
   ·by_cases e':k=i
    ·subst e';rw [ho']at hk
     cases hk
     rw [vother j oj e hj];exact key j oj e hj (lold j e hlj) hcj hck
    ·rw [vother j oj e hj,vother k ok e' hk]
     exact hI.ne j k oj ok hne hj hk (lold j e hlj) (lold k e' hlk) hcj hck }
theorem wp_region_growT {P:Program} {Q:Exit->Act->World->Prop} {id:Nat} {L:List Oper} {a0:Act} {w0:World} (hm:P.follows .mixedOrders=true) (z:Oper) (hz:L.getLast? = some z) (hB:growB L.dropLast a0.tmps.size=true)
 (hzb:(z.guard.isNone && (z.after.all fun e=>decide (e.on<L.dropLast.length)) && (List.range L.dropLast.length).all fun i=>z.after.any fun e=>e.on==i && Region.binds .any e)=true)
 (R:World->World->Prop) (Φ:Nat->Value->World->Prop) (cre:Nat->Bool) (C:World->Prop)
 (hΦ:∀ j v w w',R w w'->Φ j v w->Φ j v w') (hRs:∀ w w',R w w'->w.heap.size≤w'.heap.size) (hC0:C w0.drew) (hC:∀ w w',C w->R w w'->C w')
 (step:∀ (i:Nat) (o:Oper) (a:Act) (w:World),L.dropLast[i]? = some o->C w->Given L.dropLast Φ cre a0 o a w ->
  o.wp P a w (fun a' w'=>∃ v,a'=a.put o.dst v/\R w w'/\Φ i (o.dst.elim undef fun _=>v) w'/\(cre i=true->o.dst.isSome=true/\∃ b,blkOf v=some b/\w.heap.size≤b/\b<w'.heap.size)) Q)
 (done:∀ a w,C w->a.defers=a0.defers->a.tmps.size=a0.tmps.size->(∀ t,(∀ oj ∈ L.dropLast,oj.dst≠some t)->a.tmps.getD t undef=a0.tmps.getD t undef)->(∀ (i:Nat) (o:Oper),L.dropLast[i]? = some o->Φ i (valOf o a) w) ->
  (∀ (i j:Nat) (oi oj:Oper),i≠j->L.dropLast[i]? = some oi->L.dropLast[j]? = some oj->cre i=true->cre j=true->blkOf (valOf oi a)≠blkOf (valOf oj a))->z.wp P a w (fun a' w'=>Q .normal a' w') Q) :
 (Code.region id L.toArray true).wp P Q a0 w0:=by
 obtain⟨at1,at2⟩:=grow_at hB
 have hL:L=L.dropLast ++ [z]:=by
  have hne:L ≠ []:=fun e=>by rw [e]at hz;cases hz
  have h1:=List.dropLast_concat_getLast hne
  have h2:L.getLast hne=z:=by
   have:=List.getLast?_eq_some_getLast hne;rw [hz]at this;exact(Option.some.inj this).symm
  rw [h2]at h1;exact h1.symm
 simp only [Bool.and_eq_true]at hzb;obtain⟨⟨hz1,hz2⟩,hz3⟩:=hzb;revert at1 at2 hB step done hz2 hz3;generalize L.dropLast=l at hL ⊢;subst hL;intro hB step done at1 at2 hz3 hz2
 have hz2:∀ e ∈ z.after,e.on<l.length:=fun e he=>by
  rw [Array.all_eq_true_iff_forall_mem]at hz2;exact of_decide_eq_true (hz2 e he)
 have hz3:∀ i,i<l.length->∃ e ∈ z.after,e.on=i/\Region.binds .any e=true:=fun i hi=>by
  have:=List.all_eq_true.1 hz3 i (List.mem_range.2 hi);obtain⟨j,hj,h⟩:=Array.any_eq_true.1 this;simp only [Bool.and_eq_true,beq_iff_eq]at h;exact⟨_,Array.getElem_mem hj,h.1,h.2⟩
 have hat:∀ (i:Nat) (o:Oper),(l ++ [z]).toArray[i]? = some o->(l[i]? = some o/\i<l.length)\/(i=l.length/\o=z):=fun i o ho=>by
  rw [List.getElem?_toArray,List.getElem?_append]at ho;split at ho
  ·exact .inl ⟨ho,by assumption⟩
  ·right
   rename_i h
   have h1:=(List.getElem?_eq_some_iff.1 ho).1;simp at h1;have h2:i - l.length=0:=by omega
   rw [h2]at ho;simp at ho;exact⟨by omega,ho.symm⟩
 have hpop:∀ (A:Array Bool) (i:Nat),A.size=l.length+1->i<l.length->A.pop.getD i false=A.getD i false:=fun A i hA hi=>by
  have h1:i<A.size:=by omega
  have h2:i<A.pop.size:=by simp;omega
  rw [Array.getD_eq_getD_getElem?,Array.getD_eq_getD_getElem?,Array.getElem?_eq_getElem h1,Array.getElem?_eq_getElem h2,Array.getElem_pop]
 refine wp_region_inv hm (fun A a w=>A.size=l.length+1/\((A.getD l.length false=true/\Q .normal a w/\∀ i,i<l.length->A.getD i false=true)\/(A.getD l.length false=false/\GInv l R Φ cre C a0 A.pop a w))) ?_ ?_ ?_ ?_
 ·intro i o ho e he
  rcases hat i o ho with ⟨ho,-⟩ | ⟨rfl,rfl⟩
  ·exact(at1 i o ho).2.1 e he
  ·exact hz2 e he
 ·refine⟨by simp,.inr ⟨getD_replicate_false _ _,?_⟩⟩
  exact {
   lsz:=by simp
   c:=hC0
   sz:=rfl
   df:=rfl
   fr:=fun t _=>rfl
   phi:=fun i o ho h=>by
    have hi:=(List.getElem?_eq_some_iff.1 ho).1;rw [hpop _ _ (by simp) hi,getD_replicate_false]at h
    cases h
   blk:=fun i o ho h=>by
    have hi:=(List.getElem?_eq_some_iff.1 ho).1;rw [hpop _ _ (by simp) hi,getD_replicate_false]at h
    cases h
   ne:=fun i j oi oj _ ho _ h=>by
    have hi:=(List.getElem?_eq_some_iff.1 ho).1;rw [hpop _ _ (by simp) hi,getD_replicate_false]at h
    cases h }
 ·rintro A a w i o ⟨hA,hI⟩ ho hAi hdep
  have hwant:∀ ops,Region.wanted o (yielded ops a.tmps)=true:=fun ops=>by
   have:o.guard=none:=by
    rcases hat i o ho with ⟨ho,-⟩ | ⟨rfl,rfl⟩
    ·exact(at1 i o ho).1
    ·simpa using hz1
   simp [Region.wanted,this]
  rw [if_pos (hwant _)]
  rcases hI with ⟨hz,hq,hall⟩ | ⟨hz,hI⟩
  ·exfalso
   have h1:A.getD i false=true:=by
    rcases hat i o ho with ⟨-,hi⟩ | ⟨rfl,-⟩
    ·exact hall i hi
    ·exact hz
   have hi:i<A.size:=by
    rcases hat i o ho with ⟨-,hi⟩ | ⟨rfl,-⟩ <;> omega
   simp only [Array.getD,hi,dif_pos]at h1 hAi;rw [h1]at hAi
   cases hAi
  ·rcases hat i o ho with ⟨ho',hi⟩ | ⟨rfl,rfl⟩
   ·refine Oper.wp_mono ?_ (grow_step hB R Φ cre C hΦ hRs hC (step i o a w ho') hI ho' fun e he hb=>?_)
    ·rintro a' w' hI';refine⟨by simpa using hA,.inr ⟨?_,?_⟩⟩
     ·rw [getD_set_ne false (by omega)];exact hz
     ·have:(A.setIfInBounds i true).pop=A.pop.setIfInBounds i true:=by
       apply Array.ext_getElem?
       intro j
       by_cases hij:i=j
       ·subst hij;simp [hA,hi]
       ·simp [Array.getElem?_pop,hij]
      rw [this];exact hI'
    ·rw [hpop _ _ hA (Nat.lt_trans ((at1 i o ho').2.1 e he) hi)];exact hdep e he hb
   ·have hall:∀ i,i<l.length->A.getD i false=true:=fun i hi=>by
     obtain⟨e,he,h1,h2⟩:=hz3 i hi;have:=hdep e he h2
     rwa [h1]at this
    refine Oper.wp_mono ?_ (done a w hI.c hI.df hI.sz hI.fr (fun i o ho=>hI.phi i o ho ?_) (fun i j oi oj hne hi hj=>hI.ne i j oi oj hne hi hj ?_ ?_))
    ·rintro a' w' hq;refine⟨by simpa using hA,.inl ⟨?_,hq,fun i hi=>?_⟩⟩
     ·simp [Array.getD_eq_getD_getElem?,hA]
     ·rw [getD_set_ne false (by omega)];exact hall i hi
    ·have h1:=(List.getElem?_eq_some_iff.1 ho).1;rw [hpop _ _ hA h1];exact hall i h1
    ·have h1:=(List.getElem?_eq_some_iff.1 hi).1;rw [hpop _ _ hA h1];exact hall i h1
    ·have h1:=(List.getElem?_eq_some_iff.1 hj).1;rw [hpop _ _ hA h1];exact hall j h1
 ·rintro A a w ⟨hA,⟨-,hq,-⟩ | ⟨hz,-⟩⟩ hall
  ·exact hq
  ·exfalso
   have:=hall l.length (by simp);simp only [Array.getD,hA,Nat.lt_succ_self,dif_pos]at this hz;rw [this]at hz
   cases hz
end
end Go.Proofs.YthaliljaglldjaaGreat
