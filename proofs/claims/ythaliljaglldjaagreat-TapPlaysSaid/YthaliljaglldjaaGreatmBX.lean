/- Part of the proof. -/
import Derived.Test.YthaliljaglldjaaGreatmBW
namespace Go.Proofs.YthaliljaglldjaaGreat
set_option maxHeartbeats 16000000
set_option maxRecDepth 20000
open Go.RowKit Go.ChangeMaps Go.MapKept
section
variable {w:World} {p:Nat} {M:WM} {F:Nat->Prop}
theorem obj_ne {w:World} {a b:Nat} {x y:Obj} (ha:w.heap[a]? = some x) (hb:w.heap[b]? = some y) (hne:x≠y):a≠b:=by
 intro e;subst e;rw [ha]at hb
 cases hb
 exact hne rfl
theorem DropF_W (hW:IsW w p M F) {pa:Option Addr} {c m:Nat} {l:List Int} (hm:Hid (m=l.length)) (hml:m<1000000) (hl:Hid (IntArg .i64 w pa l)) (hwf:Hid (∀ x ∈ l,(Lit.int .i64 x).wf=true))
 (ff:Hid (∀ r t,M.at r=some t->t.kind=14->∀ u,M.at t.tgt=some u->u.kind≠14)) (hlen:Hid (M.things.length≤100000)) (light:Hid (∀ r t,M.at r=some t->Light t)) :
 Calls Tryz.prog 105 #[.pointer (some ⟨p,0,none⟩),.slice pa m c] w (DropFPost w p M F l):=by
 have HW:Hid (IsW w p M F):=hW;obtain⟨pa',pc,cg,cc,mg,mc,tb,fb,fn,bl,hV⟩:=hW;have HV:=(show Hid _ from hV);have hmm:=@run_makeMap Tryz.prog;clear hV
 go_enter Tryz.func105,Tryz.ntmps105
 go_wp2_with fail
 refine(none_W HW.out).mono ?_;rintro e _ ⟨rfl,rfl⟩
 go_upto_block 0 with fail
 go_cut [] (fun wx=>Hid (GI w wx l/\∀ r ∈ l,M.at r≠none))
 case first =>
  go_wp2_with fail
  go_loopw [21] (fun vi wr=>∃ k:Nat,vi=.int .i64 k/\k≤m/\Hid (GI w wr (l.take k)/\∀ r ∈ l.take k,M.at r≠none)) (fun vi _=>m - (intOf vi).toNat)
  case atStart =>
   refine⟨0,rfl,Nat.zero_le _,⟨((Below.refl _ _).alloc (Nat.le_refl _) _).alloc (by simp) _,blk2_new _ _ _,0,Nat.le_refl _,?_⟩,by simp⟩;exact((HasMap.made w Tryz.prog 25).of_block (w':=(w.alloc (.map #[] 0)).alloc _) ((blk2_old w _ _).trans (blk_new w _).symm)).congr (fun key _ _=>by unfold gof;split <;> simp)
  case round =>
   obtain⟨k,rfl,hk,HG⟩:=hrel
   by_cases hkm:k<m
   ·obtain⟨x,hx⟩:∃ x,l[k]? = some x:=⟨_,List.getElem?_eq_getElem (by have:=hm.out;omega)⟩;have hxl:x ∈ l:=List.mem_of_getElem? hx;have hxw:=hwf.out x hxl;have htk:l.take (k+1)=l.take k ++ [x]:=by rw [List.take_add_one,hx];rfl
    obtain⟨b,o,rfl,hc⟩:∃ b o,pa=some ⟨b,o,none⟩/\wr.cell? ⟨b,o+k,none⟩=some (.int .i64 x):=by
     rcases hl.out with h | ⟨b,o,h1,h2,h3⟩
     ·rw [h]at hx;simp at hx
     ·exact⟨b,o,h1,(HG.out.1.b.cell (p:=⟨b,o+k,none⟩) h2).trans (h3 k x hx)⟩
    have hkz:(k:Int)<(m:Int):=by omega
    have hwk:wrap64 ((k:Int)+1)=(k:Int)+1:=by unfold wrap64;omega
    have g5:wr.cell? ⟨w.heap.size+1,0,none⟩=some (.map (some w.heap.size)):=by rw [cell_blk HG.out.1.cell];rfl
    have Hxl:=(show Hid _ from hxl);have Htk:=(show Hid _ from htk);obtain⟨w2,hrun,hG2⟩:=HG.out.1.put (by rw [List.length_take];omega) hxw;have HG2:=(show Hid _ from hG2);have hI:=Is_W (HW.out.below HG.out.1.b) hxw;clear hxl htk hx hG2
    cases ha:M.at x with
    | none =>
      rw [ha]at hI;have Ha:=(show Hid _ from ha);clear ha
      go_wp2_with fail
      refine hI.mono ?_;rintro e _ ⟨rfl,rfl⟩
      go_wp2_with fail
      go_ret
      exact .inl ⟨rfl,HG.out.1.b,x,Hxl.out,Ha.out⟩
    | some t =>
      rw [ha]at hI;have Ha:=(show Hid _ from ha);clear ha
      go_wp2_with fail
      refine hI.mono ?_;rintro e _ ⟨rfl,rfl⟩
      go_wp2_with fail
      go_roundw
      case rel =>
       refine⟨k+1,by go_num,by omega,?_,?_⟩
       ·rw [Htk.out];exact HG2.out
       ·rw [Htk.out];intro r hr
        rcases List.mem_append.1 hr with h | h
        ·exact HG.out.2 r h
        ·simp at h;rw [h,Ha.out];simp
      case measure=>simp [intOf];omega
   ·have hkz:¬ (k:Int)<(m:Int):=by omega
    have hkm':k=m:=by omega
    have Hl:Hid (l.take k=l):=by show _=_;rw [hkm',hm.out,List.take_length]
    clear hkm'
    go_wp2_with fail
    go_meet
    case rel =>
     have:=HG.out;rw [Hl.out]at this;exact this
 have HP:=(show Hid (∀ r ∈ l,M.at r≠none)from hcut.out.2);have HGc:=(show Hid (GI w wc l)from hcut.out.1);have c2:=(HV.out.below hcut.out.1.b).c2;have Hth:=(show Hid _ from(HV.out.below hcut.out.1.b).things);have hr0:w.heap.size+1<wc.heap.size:=blk_lt hcut.out.1.cell;clear hcut
 go_wp2_with (first | (at_range;refine range_H rfl _ 137 146 rfl Tryz.underlying137 tb _ (thf M bl) rfl Hth.out ?_;intro w3 L cnt hrg hL hb3))
 go_frame
 have HG3:=(show Hid (GI w w3 (l ++ []))from by rw [List.append_nil];exact HGc.out.below hb3)
 have HF3:Hid (FI M l L []):=FI.start HV.out.ok hL;have Hrg3:=(show Hid _ from hrg);clear hrg hL hb3 c2 HGc Hth;generalize wc.heap.size=r0 at *;clear wc
 go_loopw [] (fun wr=>∃ L cnt fs,Hid (Rg wr tb r0 (thf M bl) L cnt)/\Hid (GI w wr (l ++ fs))/\Hid (FI M l L fs)) (fun wr=>wr.rangeLeft tb r0)
 case atStart=>exact⟨L,cnt,[],Hrg3,HG3,HF3⟩
 case round =>
  clear HG3 Hrg3 HF3;obtain⟨L,cnt,fs,hrg,HG0,HFI⟩:=hrel
  go_wp2_with (first | (at_next;refine next_H rfl _ rfl tb r0 (thf M bl) L cnt rfl hrg.out ?_ ?_))
  ·intro hdone;obtain⟨gs,hgs⟩:∃ gs,gs=goneQ M l:=⟨_,rfl⟩;have hfd:=HFI.out.done HV.out.ok hdone;have HG:Hid (GI w wr gs):=HG0.out.swap (by rw [hgs];exact hfd.1) (by rw [hgs];unfold goneQ;rw [List.length_append,List.length_append];have:=HFI.out.len;omega);have HNH:Hid (gs=goneQ M l/\∀ x ∈ M.things,¬ heldX l x):=⟨hgs,hfd.2⟩;have HPg:Hid (∀ r ∈ gs,M.at r≠none):=by rw [hgs];exact goneQ_at HV.out.ok HP.out
   have hwfg:Hid (∀ x ∈ gs,(Lit.int .i64 x).wf=true):=fun x hx=>by
    obtain⟨t,ht⟩:=Option.ne_none_iff_exists'.1 (HPg.out x hx);exact HV.out.ok.at_wf ht
   have HX72:Hid (Lean' M gs->∃ x ∈ M.things,heldX l x\/leanX (goneQ M l) x):=fun h=>by
    obtain⟨x,hx,h1⟩:=(lean_X HV.out.ok).1 h;rw [hgs]at h1;exact⟨x,hx,.inr h1⟩
   clear hfd hgs hdone HG0 HFI;have c2:=(HV.out.below HG.out.b).c2;have Hth:=(show Hid _ from(HV.out.below HG.out.b).things);have hr1:w.heap.size+1<wr.heap.size:=blk_lt HG.out.cell;clear hrg hr0
   go_wp2_with (first | (at_range;refine range_H rfl _ 137 146 rfl Tryz.underlying137 tb _ (thf M bl) rfl Hth.out ?_;intro w3 L cnt hrg hL hb3))
   go_frame
   have HG3:=(show Hid (GI w w3 gs)from HG.out.below hb3);have Hrg3:=(show Hid _ from hrg)
   have HL:=(show Hid (∀ q t,M.at q=some t->L q=false->q ∈ gs\/¬ leans gs t)from fun q t hq hLq=>by
    rw [hL q ((HV.out.ok).at_wf hq),thf,hq]at hLq
    simp at hLq)
   clear hrg hL hb3 c2 HG Hth;generalize wr.heap.size=r1 at *;obtain⟨wo,hwo⟩:∃ wo:World,wo=wr:=⟨_,rfl⟩;subst hwo
   go_loopw [] (fun wr=>∃ L cnt,Hid (Rg wr tb r1 (thf M bl) L cnt)/\Hid (GI w wr gs)/\Hid (∀ q t,M.at q=some t->L q=false->q ∈ gs\/¬ leans gs t)) (fun wr=>wr.rangeLeft tb r1)
   case atStart=>exact⟨L,cnt,Hrg3,HG3,HL⟩
   case round =>
    clear HG3 Hrg3 HL;obtain⟨L,cnt,hrg,HG,HL⟩:=hrel
    go_wp2_with (first | (at_next;refine next_H rfl _ rfl tb r1 (thf M bl) L cnt rfl hrg.out ?_ ?_))
    ·intro hdone
     have HN:=(show Hid (¬ Lean' M gs)from fun⟨q,t,h1,h2,h3⟩=>by
      rcases HL.out q t h1 (hdone q (HV.out.ok.at_wf h1))with h | h
      ·exact h2 h
      ·exact h h3)
     clear hdone HL hrg hr1;have Hgm:=(show Hid _ from HG.out.map);have Hflt:=(show Hid (∀ b,F b->b<w.heap.size)from HV.out.lt);have g5:wr.cell? ⟨w.heap.size+1,0,none⟩=some (.map (some w.heap.size)):=by rw [cell_blk HG.out.cell];rfl
     have HGr:=(show Hid (GI w wr gs)from HG.out);clear HG;obtain⟨gn,-,hgm⟩:=Hgm.out;have HM:=(show Hid _ from hgm);clear hgm Hgm
     go_wp2_with (first | (at_range;refine range_H rfl _ 256 3 rfl Tryz.underlying256 w.heap.size _ (gof gs) rfl HM.out ?_;intro w3 L cnt hrg hL hb3))
     go_frame
     have HG3:=(show Hid (DA4 w p M F pa' pc cg cc mg mc tb fb fn bl gs wr.heap.size L cnt [] w3)from {
      rg:=hrg
      k:=Keeps.of_below (HGr.out.b.trans (hb3.mono HGr.out.b.size))
      cell:=below_blk hb3 HGr.out.cell
      map:=⟨gn,HasMap.of_block (n:=gn) HM.out (hb3.block _ (HasMap.lt (n:=gn) HM.out))⟩
      wv:=(HV.out.below (HGr.out.b.trans (hb3.mono HGr.out.b.size))).start
      flt:=Hflt.out
      rlt:=blk_lt HGr.out.cell })
     have HD3:=(show Hid (Ds gs L [])from Ds.start hL);clear hrg hL hb3 g5 HM HGr;generalize wr.heap.size=r2 at *
     go_loopw [] (fun wr=>∃ L cnt ds,Hid (DA4 w p M F pa' pc cg cc mg mc tb fb fn bl gs r2 L cnt ds wr)/\Hid (Ds gs L ds)) (fun wr=>wr.rangeLeft w.heap.size r2)
     case atStart=>exact⟨L,cnt,[],HG3,HD3⟩
     case round =>
      clear HG3 HD3;obtain⟨L,cnt,ds,HG,HD⟩:=hrel
      go_wp2_with (first | (at_next;refine next_H rfl _ rfl w.heap.size r2 (gof gs) L cnt rfl HG.out.rg ?_ ?_))
      ·intro hdone;have Hds:=(show Hid (ds.Nodup/\∀ x,x ∈ ds ↔ x ∈ gs)from HD.out.done hwfg.out hdone);have HN4:=(show Hid ((ds.foldl (WM.gone1 gs) M).ok/\¬ Lean' (ds.foldl (WM.gone1 gs) M) gs)from⟨HG.out.wv.ok,fold_lean ds HV.out.ok HN.out⟩);have HWVo:=(show Hid (WVo wr p (ds.foldl (WM.gone1 gs) M) F pa' pc cg cc mg mc tb fb fn bl ds)from HG.out.wv);generalize hN:ds.foldl (WM.gone1 gs) M=N at *;have HNs:=(show Hid (ds.foldl (WM.gone1 gs) M=N)from hN);clear hN hdone HD;have g5:wr.cell? ⟨w.heap.size+1,0,none⟩=some (.map (some w.heap.size)):=by rw [cell_blk HG.out.cell];rfl
       obtain⟨gn,hgm⟩:=HG.out.map;have HM:=(show Hid _ from hgm);clear hgm
       go_wp2_with (first | (at_range;refine range_H rfl _ 256 3 rfl Tryz.underlying256 w.heap.size _ (gof gs) rfl HM.out ?_;intro w3 L3 cnt3 hrg hL hb3))
       go_frame
       have hnil:N.delL []=N:=WM.delL_nil N
       have HG3:=(show Hid (G5 w wr F tb bl N gs wr.heap.size L3 cnt3 [] w3)from {
        rg:=hrg
        k:=HG.out.k.then_below hb3
        sz:=hb3.size
        oth:=fun b hF _=>hb3.block b (HWVo.out.lt b hF)
        things:=by rw [hnil];exact HWVo.out.things.of_block (hb3.block _ HWVo.out.things.lt)
        rlt:=blk_lt HG.out.cell })
       have HD3:=(show Hid (Ds gs L3 [])from Ds.start hL);clear hrg hL hb3 g5 HM HG hnil;generalize wr.heap.size=r3 at *;obtain⟨wo,hwo⟩:∃ wo:World,wo=wr:=⟨_,rfl⟩;subst hwo
       go_loopw [] (fun wr=>∃ L cnt es,Hid (G5 w wo F tb bl N gs r3 L cnt es wr)/\Hid (Ds gs L es)) (fun wr=>wr.rangeLeft w.heap.size r3)
       case atStart=>exact⟨L3,cnt3,[],HG3,HD3⟩
       case round =>
        clear HG3 HD3;obtain⟨L,cnt,es,HG,HD⟩:=hrel
        go_wp2_with (first | (at_next;refine next_H rfl _ rfl w.heap.size r3 (gof gs) L cnt rfl HG.out.rg ?_ ?_))
        ·intro hdone;have Hes:=(show Hid (es.Nodup/\∀ x,x ∈ es ↔ x ∈ gs)from HD.out.done hwfg.out hdone);clear hdone
         go_wp2_with fail
         go_ret
         have hgs:=HNH.out.1;refine .inr (.inr ⟨HP.out,rfl,fun x hx=>⟨HNH.out.2 x hx,fun h=>HN.out ((lean_X HV.out.ok).2 ⟨x,hx,by rw [hgs];exact h⟩)⟩,ds,by rw [<- hgs];exact Hds.out.2,?_,HG.out.k⟩);rw [<- hgs,HNs.out,← N.delL_congr Hes.out.2];refine HWVo.out.gone (fun x=>(Hds.out.2 x).trans (Hes.out.2 x).symm) ?_ HG.out.sz HG.out.oth HG.out.things;intro h;apply HN4.out.2
         obtain⟨q,t,h1,h2,h3⟩:=h;exact⟨q,t,h1,fun e=>h2 ((Hes.out.2 q).2 e),h3.imp (fun h=>⟨h.1,(Hes.out.2 _).1 h.2⟩) (fun h=>(Hes.out.2 _).1 h)⟩
        ·intro x v w4 cnt' hx hLx hf hrg' hlt hk hsz hen;have hxl:=gof_some hf;have HG4:=(show Hid (G5 w wo F tb bl N gs r3 (fun z=>L z && !decide (z=x)) cnt' es w4)from HG.out.next Hflt.out HWVo.out.own.2.2.2.1 hrg' hk)
         have HD4:=(show Hid (Ds gs (fun z=>L z && !decide (z=x)) (es ++ [x]))from HD.out.step hxl hLx);have Hlt:=(show Hid (cnt'<cnt)from hlt);have Hcnt:=(show Hid (wr.rangeLeft w.heap.size r3=cnt)from HG.out.rg.left_eq)
         have c2:w4.cell? ⟨p,2,none⟩=some (.map (some tb)):=by
          have hp:=HWVo.out.hp;obtain⟨es0,cl0,htb0⟩:=HWVo.out.things.is;have:=(HG4.out.oth p HWVo.out.own.1 (obj_ne hp htb0 (by simp))).trans hp;rw [cell_blk this];rfl
         obtain⟨w5,hrun,hG5⟩:=HG4.out.drop HN4.out.1 Hflt.out HWVo.out.own.2.2.2.1 hx 0;have HG5:=(show Hid _ from hG5);clear hxl hLx hf hrg' hlt hk hsz HG HD hG5
         go_wp2_with fail
         go_roundw
         case rel=>exact⟨_,_,es ++ [x],HG5,HD4⟩
         case measure =>
          rw [Hcnt.out,(show Hid (G5 w wo F tb bl N gs r3 _ cnt' (es ++ [x]) w5)from HG5).out.rg.left_eq];exact Hlt.out
      ·intro x v w4 cnt' hx hLx hf hrg' hlt hk hsz hen;have hxl:=gof_some hf;have HG4:=(show Hid (DA4 w p M F pa' pc cg cc mg mc tb fb fn bl gs r2 (fun z=>L z && !decide (z=x)) cnt' ds w4)from HG.out.next hrg' hk)
       have HD4:=(show Hid (Ds gs (fun z=>L z && !decide (z=x)) (ds ++ [x]))from HD.out.step hxl hLx);have Hlt:=(show Hid (cnt'<cnt)from hlt)
       obtain⟨t,ht⟩:∃ t,(ds.foldl (WM.gone1 gs) M).at x=some t:=by
        rw [fold_at hxl ds HV.out.ok];exact Option.ne_none_iff_exists'.1 (HPg.out x hxl)
       have Hcnt:=(show Hid (wr.rangeLeft w.heap.size r2=cnt)from HG.out.rg.left_eq);have Ht:=(show Hid _ from ht);have Hxl:=(show Hid (x ∈ gs)from hxl);have c2:=HG4.out.wv.c2;have hlk:=HG4.out.wv.look hx;rw [ht]at hlk;simp only [Option.map_some]at hlk;have k0:=(thc_cell (HG4.out.wv.blk x t ht).1).1;have hstep:(ds ++ [x]).foldl (WM.gone1 gs) M=WM.gone1 gs (ds.foldl (WM.gone1 gs) M) x:=by simp
       have Hstep:=(show Hid _ from hstep);have HWV:=(show Hid (WVo w4 p (ds.foldl (WM.gone1 gs) M) F pa' pc cg cc mg mc tb fb fn bl ds)from HG4.out.wv);generalize hN:ds.foldl (WM.gone1 gs) M=N at *;clear hxl hLx hf hrg' hlt hk hsz HG HD ht hstep
       by_cases h14:t.kind=14
       ·have k14:(t.kind==14)=true:=by simpa using h14
        have Hsame:Hid (WM.gone1 gs N x=N):=by show WM.gone1 gs N x=N;simp [WM.gone1,Ht.out,h14]
        obtain⟨-,-,-,-,e10,-,e12,-⟩:=thc_cell (HWV.out.blk x t Ht.out).1;have c3:=HWV.out.c3;obtain⟨w5,hrun,hV5,hk5⟩:=HWV.out.drew.out Ht.out h14 0;have HG7:Hid (DA4 w p M F pa' pc cg cc mg mc tb fb fn bl gs r2 (fun z=>L z && !decide (z=x)) cnt' (ds ++ [x]) w5):=(HG4.out.below (w':=w4.drew) below_drew).turned (hk5.mono fun b _ e=>by rw [e];exact HWV.out.own.2.2.2.2) (by rw [Hstep.out,Hsame.out];exact hV5);clear hV5 hk5 h14
        go_wp2_with fail
        go_still_tail 13,(by kernel_rfl)
        change wpList _ _ _ _ _ w4.drew
        go_wp2_with fail
        go_roundw
        case rel=>exact⟨_,_,ds ++ [x],HG7.out,HD4⟩
        case measure =>
         rw [Hcnt.out,HG7.out.rg.left_eq];exact Hlt.out
       ·have k14:(t.kind==14)=false:=by simpa using h14
        have H14:Hid (t.kind≠14):=h14;clear h14
        by_cases h9:t.kind=9
        ·have k9:(t.kind==9)=true:=by simpa using h9
         obtain⟨u,hu,hu8⟩:=HWV.out.ok.purse x t Ht.out h9;have Hu:=(show Hid (N.at t.tgt=some u)from hu);have k6:=(thc_cell (HWV.out.blk x t Ht.out).1).2.2.2.2.1;have hwt:=(HWV.out.ok.wf x t Ht.out).tgt;have hlk6:=HWV.out.look_drewN hwt hu;have hl6:=(show Hid (∀ m,(Instr.lookup 256 (.map (some w.heap.size)) (.int .i64 t.tgt) false).run Tryz.prog (w4.drewN m)=.ok (.int .i64 (if t.tgt ∈ gs then 1 else 0)) (w4.drewN m))from fun m=>(HG4.out.below (w':=w4.drewN m) ⟨rfl,rfl,rfl,Nat.le_refl _,fun _ _=>rfl⟩).look hwt)
         have h6:=hl6.out;have g5:w4.cell? ⟨w.heap.size+1,0,none⟩=some (.map (some w.heap.size)):=by rw [cell_blk HG4.out.cell];rfl
         by_cases hin:t.tgt ∈ gs
         ·rw [if_pos hin]at h6;have Hsame:Hid (WM.gone1 gs N x=N):=by show WM.gone1 gs N x=N;simp [WM.gone1,Ht.out,h9,hin]
          clear h9 hu hu8 hwt hin
          go_wp2_with fail
          go_quiet (fail)
          revert nq;intro na
          go_wp2_with fail
          go_quiet (fail)
          have HG6:=(show Hid (DA4 w p M F pa' pc cg cc mg mc tb fb fn bl gs r2 (fun z=>L z && !decide (z=x)) cnt' ds ((w4.drewN na).drewN nq))from HG4.out.below ⟨rfl,rfl,rfl,Nat.le_refl _,fun _ _=>rfl⟩);have HWV6:=(show Hid (WVo ((w4.drewN na).drewN nq) p N F pa' pc cg cc mg mc tb fb fn bl ds)from HWV.out.below ⟨rfl,rfl,rfl,Nat.le_refl _,fun _ _=>rfl⟩);clear hlk6 h6 hl6 g5 c2 hlk k0 k6;generalize (w4.drewN na).drewN nq=w6 at *
          go_wp2_with fail
          go_roundw
          case rel=>exact⟨_,_,ds ++ [x],HG6.out.turned (Keeps.refl _ _) (by rw [Hstep.out,Hsame.out];exact HWV6.out.skip Ht.out H14.out),HD4⟩
          case measure =>
           rw [Hcnt.out,HG6.out.rg.left_eq];exact Hlt.out
         ·rw [if_neg hin]at h6;have Hset:Hid (WM.gone1 gs N x=N.set t.tgt { u with lost:=min u.n (wrap64 (u.lost+t.n)) }):=by show WM.gone1 gs N x=_;simp [WM.gone1,Ht.out,h9,hin,hu]
          clear h9 hu hu8 hwt
          go_wp2_with fail
          go_quiet (fail)
          revert nq;intro na
          go_wp2_with fail
          go_quiet (fail)
          have HG6:=(show Hid (DA4 w p M F pa' pc cg cc mg mc tb fb fn bl gs r2 (fun z=>L z && !decide (z=x)) cnt' ds ((w4.drewN na).drewN nq))from HG4.out.below ⟨rfl,rfl,rfl,Nat.le_refl _,fun _ _=>rfl⟩);have HWV6:=(show Hid (WVo ((w4.drewN na).drewN nq) p N F pa' pc cg cc mg mc tb fb fn bl ds)from HWV.out.below ⟨rfl,rfl,rfl,Nat.le_refl _,fun _ _=>rfl⟩);clear hlk6 h6 hl6 g5 c2 hlk k0 k6;generalize (w4.drewN na).drewN nq=w6 at *
          have HG7:Hid (DA4 w p M F pa' pc cg cc mg mc tb fb fn bl gs r2 (fun z=>L z && !decide (z=x)) cnt' (ds ++ [x]) (w6.setCell ⟨bl t.tgt,9,none⟩ (.int .i64 (if wrap64 (u.lost+t.n)<u.n then wrap64 (u.lost+t.n)else u.n))).drew):=by
           have hwv:=(HWV6.out.cellSet (r:=t.tgt) (u:=u) (t:={ u with lost:=min u.n (wrap64 (u.lost+t.n)) }) ⟨Hu.out,rfl,rfl,fun _=>rfl,(HWV6.out.ok.wf _ _ Hu.out).tgt,rfl,rfl⟩ (set_lost _) ⟨rfl,rfl,rfl,rfl,rfl,rfl⟩).drew.skip (r:=x) (u:=t) (by rw [WM.set_at_ne _ _ fun e=>hin (by rw [<- e];exact Hxl.out)];exact Ht.out) H14.out
           rw [min_if];have hk:Keeps F w6 (w6.setCell ⟨bl t.tgt,9,none⟩ (.int .i64 (min u.n (wrap64 (u.lost+t.n))))).drew:=(Keeps.setCell w6 ⟨bl t.tgt,9,none⟩ _ (HWV6.out.blk _ u Hu.out).2).drew;refine HG6.out.turned hk ?_;rw [Hstep.out,Hset.out];exact hwv
          have HG8:Hid (DA4 w p M F pa' pc cg cc mg mc tb fb fn bl gs r2 (fun z=>L z && !decide (z=x)) cnt' (ds ++ [x]) (w6.setCell ⟨bl t.tgt,9,none⟩ (.int .i64 (min u.n (wrap64 (u.lost+t.n))))).drew):=by
           have h:=HG7.out;rw [min_if]at h;exact h
          obtain⟨-,-,e8,-,-,-,-,-⟩:=thc_cell (HWV6.out.blk x t Ht.out).1;obtain⟨-,-,f8,f9,-,-,-,-⟩:=thc_cell (HWV6.out.blk _ u Hu.out).1;have ffr:=frozen_blk (HWV6.out.blk _ u Hu.out).1 9
          go_wp2_with fail
          go_still_tail 17,(by kernel_rfl)
          change wpList _ _ _ _ _ w6.drew
          go_wp2_with fail
          go_roundw
          case rel=>first | exact⟨_,_,ds ++ [x],HG7.out,HD4⟩ | exact⟨_,_,ds ++ [x],HG8.out,HD4⟩
          case measure=>first
           | (rw [Hcnt.out,HG7.out.rg.left_eq];exact Hlt.out)
           | (rw [Hcnt.out,HG8.out.rg.left_eq];exact Hlt.out)
        ·by_cases h15:t.kind=15
         ·have k9:(t.kind==9)=false:=by simpa using h9
          have k15:(t.kind==15)=true:=by simpa using h15
          obtain⟨u,hu,hu13⟩:=HWV.out.ok.gate x t Ht.out h15;have Hu:=(show Hid (N.at t.bi=some u)from hu);have Hu13:=(show Hid (u.kind=13)from hu13);have k7:=(thc_cell (HWV.out.blk x t Ht.out).1).2.2.2.2.2.1;have hwt:=(HWV.out.ok.wf x t Ht.out).bi;have Hwt:=(show Hid _ from hwt);have hl6:=(show Hid (∀ m,(Instr.lookup 256 (.map (some w.heap.size)) (.int .i64 t.bi) false).run Tryz.prog (w4.drewN m)=.ok (.int .i64 (if t.bi ∈ gs then 1 else 0)) (w4.drewN m))from fun m=>(HG4.out.below (w':=w4.drewN m) ⟨rfl,rfl,rfl,Nat.le_refl _,fun _ _=>rfl⟩).look hwt)
          have h6:=hl6.out;have g5:w4.cell? ⟨w.heap.size+1,0,none⟩=some (.map (some w.heap.size)):=by rw [cell_blk HG4.out.cell];rfl
          by_cases hin:t.bi ∈ gs
          ·rw [if_pos hin]at h6;have Hsame:Hid (WM.gone1 gs N x=N):=by show WM.gone1 gs N x=N;simp [WM.gone1,Ht.out,h15,hin]
           clear h9 h15 hu hu13 hwt hin
           go_wp2_with fail
           go_quiet (fail)
           have HG6:=(show Hid (DA4 w p M F pa' pc cg cc mg mc tb fb fn bl gs r2 (fun z=>L z && !decide (z=x)) cnt' ds (w4.drewN nq))from HG4.out.below ⟨rfl,rfl,rfl,Nat.le_refl _,fun _ _=>rfl⟩);have HWV6:=(show Hid (WVo (w4.drewN nq) p N F pa' pc cg cc mg mc tb fb fn bl ds)from HWV.out.below ⟨rfl,rfl,rfl,Nat.le_refl _,fun _ _=>rfl⟩);clear h6 hl6 g5 c2 hlk k0 k7;generalize w4.drewN nq=w6 at *
           go_wp2_with fail
           go_roundw
           case rel=>exact⟨_,_,ds ++ [x],HG6.out.turned (Keeps.refl _ _) (by rw [Hstep.out,Hsame.out];exact HWV6.out.skip Ht.out H14.out),HD4⟩
           case measure =>
            rw [Hcnt.out,HG6.out.rg.left_eq];exact Hlt.out
          ·rw [if_neg hin]at h6;have Hset:Hid (WM.gone1 gs N x=N.set t.bi { u with tgt:=0 }):=by show WM.gone1 gs N x=_;simp [WM.gone1,Ht.out,h15,hin,hu]
           clear h9 h15 hu hu13 hwt
           go_wp2_with fail
           go_quiet (fail)
           have HG6:=(show Hid (DA4 w p M F pa' pc cg cc mg mc tb fb fn bl gs r2 (fun z=>L z && !decide (z=x)) cnt' ds (w4.drewN nq))from HG4.out.below ⟨rfl,rfl,rfl,Nat.le_refl _,fun _ _=>rfl⟩);have HWV6:=(show Hid (WVo (w4.drewN nq) p N F pa' pc cg cc mg mc tb fb fn bl ds)from HWV.out.below ⟨rfl,rfl,rfl,Nat.le_refl _,fun _ _=>rfl⟩);clear h6 hl6 g5 c2 hlk k0 k7;generalize w4.drewN nq=w6 at *
           have HG7:Hid (DA4 w p M F pa' pc cg cc mg mc tb fb fn bl gs r2 (fun z=>L z && !decide (z=x)) cnt' (ds ++ [x]) (w6.setCell ⟨bl t.bi,10,none⟩ (.int .i64 0)).drew):=by
            have hwv:=(HWV6.out.cellSet (r:=t.bi) (u:=u) (t:={ u with tgt:=0 }) ⟨Hu.out,rfl,rfl,fun h=>absurd Hu13.out h,rfl,rfl,rfl⟩ (set_tgt _) ⟨rfl,rfl,rfl,rfl,rfl,rfl⟩).drew.skip (r:=x) (u:=t) (by rw [WM.set_at_ne _ _ fun e=>hin (by rw [<- e];exact Hxl.out)];exact Ht.out) H14.out
            have hk:Keeps F w6 (w6.setCell ⟨bl t.bi,10,none⟩ (.int .i64 0)).drew:=(Keeps.setCell w6 ⟨bl t.bi,10,none⟩ _ (HWV6.out.blk _ u Hu.out).2).drew;refine HG6.out.turned hk ?_;rw [Hstep.out,Hset.out];exact hwv
           obtain⟨-,-,-,-,-,e11,-,-⟩:=thc_cell (HWV6.out.blk x t Ht.out).1;obtain⟨-,-,-,-,f10,-,-,-⟩:=thc_cell (HWV6.out.blk _ u Hu.out).1;have ffr:=frozen_blk (HWV6.out.blk _ u Hu.out).1 10;have c26:=HWV6.out.c2;have hlk7:=(HWV6.out.drew).look Hwt.out;rw [Hu.out]at hlk7;simp only [Option.map_some]at hlk7
           go_wp2_with fail
           go_still_tail 11,(by kernel_rfl)
           change wpList _ _ _ _ _ w6.drew
           go_wp2_with fail
           go_roundw
           case rel=>exact⟨_,_,ds ++ [x],HG7.out,HD4⟩
           case measure =>
            rw [Hcnt.out,HG7.out.rg.left_eq];exact Hlt.out
         ·have k9:(t.kind==9)=false:=by simpa using h9
          have k15:(t.kind==15)=false:=by simpa using h15
          have Hsame:Hid (WM.gone1 gs N x=N):=by show WM.gone1 gs N x=N;simp [WM.gone1,Ht.out,h9,h15]
          clear h9 h15
          go_wp2_with fail
          go_roundw
          case rel =>
           exact⟨_,_,ds ++ [x],HG4.out.turned (Keeps.refl _ _) (by rw [Hstep.out,Hsame.out];exact HWV.out.skip Ht.out H14.out),HD4⟩
          case measure =>
           rw [Hcnt.out,HG4.out.rg.left_eq];exact Hlt.out
    ·intro x v w4 cnt' hx hLx hf hrg' hlt hk hsz hen;obtain⟨t,ht,rfl⟩:=thf_some hf;have HG4:=(show Hid (GI w w4 gs)from HG.out.keeps hk hr1);have Hlt:=(show Hid (cnt'<cnt)from hlt);have Hrg4:=(show Hid _ from hrg');have Ht:=(show Hid (M.at x=some t)from ht);have g5:w4.cell? ⟨w.heap.size+1,0,none⟩=some (.map (some w.heap.size)):=by rw [cell_blk HG4.out.cell];rfl
     have hlk:=HG4.out.look hx;clear hLx hf hrg' hlt hk hsz ht
     by_cases hxl:x ∈ gs
     ·rw [if_pos hxl]at hlk
      have HL4:=(show Hid (∀ q t,M.at q=some t->(L q && !decide (q=x))=false->q ∈ gs\/¬ leans gs t)from fun q u hq hLq=>by
       by_cases e:q=x
       ·exact .inl (e ▸ hxl)
       ·exact HL.out q u hq (by simpa [e]using hLq))
      clear hxl
      go_wp2_with fail
      go_roundw
      case rel=>exact⟨_,_,Hrg4,HG4,HL4⟩
      case measure =>
       rw [Rg.left_eq Hrg4.out,Rg.left_eq hrg.out];exact Hlt.out
     ·rw [if_neg hxl]at hlk;have Hxl:=(show Hid _ from hxl);have hblk:=((HV.out.below HG4.out.b).blk x t Ht.out).1;obtain⟨k0,-,-,-,k6,k7,-,-⟩:=thc_cell hblk;have hwf2:=HV.out.ok.wf x t Ht.out;have hl6:=(show Hid (∀ m,(Instr.lookup 256 (.map (some w.heap.size)) (.int .i64 t.tgt) false).run Tryz.prog (w4.drewN m)=.ok (.int .i64 (if t.tgt ∈ gs then 1 else 0)) (w4.drewN m))from fun m=>(HG4.out.below (w':=w4.drewN m) ⟨rfl,rfl,rfl,Nat.le_refl _,fun _ _=>rfl⟩).look hwf2.tgt)
      have hl7:=(show Hid (∀ m,(Instr.lookup 256 (.map (some w.heap.size)) (.int .i64 t.bi) false).run Tryz.prog (w4.drewN m)=.ok (.int .i64 (if t.bi ∈ gs then 1 else 0)) (w4.drewN m))from fun m=>(HG4.out.below (w':=w4.drewN m) ⟨rfl,rfl,rfl,Nat.le_refl _,fun _ _=>rfl⟩).look hwf2.bi)
      have HD:=(show Hid (Bl w w4)from HG4.out.b);clear hxl hwf2
      by_cases hA:t.kind≠13/\t.tgt ∈ gs
      ·have hlean:=(show Hid (Lean' M gs)from⟨x,t,Ht.out,Hxl.out,.inl hA⟩);have k13:(t.kind != 13)=true:=by simpa using hA.1
       have h6:=hl6.out;rw [if_pos hA.2]at h6;clear hA hblk
       go_wp2_with fail
       go_quiet (fail)
       go_wp2_with fail
       go_ret
       exact .inr (.inl ⟨HP.out,rfl,HD.out.trans ⟨rfl,rfl,rfl,Nat.le_refl _,fun _ _=>rfl⟩,HX72.out hlean.out⟩)
      ·by_cases hB:t.bi ∈ gs
       ·have hlean:=(show Hid (Lean' M gs)from⟨x,t,Ht.out,Hxl.out,.inr hB⟩);have h7:=hl7.out;rw [if_pos hB]at h7;have h6:=hl6.out
        by_cases h13:t.kind=13
        ·have k13:(t.kind != 13)=false:=by simpa using h13
         clear hA hB h13 hblk h6
         go_wp2_with fail
         go_quiet (fail)
         go_wp2_with fail
         go_ret
         exact .inr (.inl ⟨HP.out,rfl,HD.out.trans ⟨rfl,rfl,rfl,Nat.le_refl _,fun _ _=>rfl⟩,HX72.out hlean.out⟩)
        ·have k13:(t.kind != 13)=true:=by simpa using h13
         rw [if_neg (fun h=>hA ⟨h13,h⟩)]at h6;clear hA hB h13 hblk
         go_wp2_with fail
         go_quiet (fail)
         go_wp2_with fail
         go_ret
         exact .inr (.inl ⟨HP.out,rfl,HD.out.trans ⟨rfl,rfl,rfl,Nat.le_refl _,fun _ _=>rfl⟩,HX72.out hlean.out⟩)
       ·have hno:=(show Hid (¬ leans gs t)from fun h=>by
         rcases h with h | h
         ·exact hA h
         ·exact hB h)
        have HL4:=(show Hid (∀ q t,M.at q=some t->(L q && !decide (q=x))=false->q ∈ gs\/¬ leans gs t)from fun q u hq hLq=>by
         by_cases e:q=x
         ·subst e;rw [Ht.out]at hq;cases hq;exact .inr hno.out
         ·exact HL.out q u hq (by simpa [e]using hLq))
        have hheld:=(show Hid (∀ W,Calls Tryz.prog 166 #[.agg (thc t)] W fun e w'=>e=.returned (.slice none 0 0)/\Bl W w')from fun W=>by
         obtain⟨k,h,vk,vn,n,lo,tg,bi,s,fu,rfl,hp⟩:=light.out x t Ht.out
         exact held_W W k h vk vn n lo tg bi s fu hp)
        have ds:Hid (∀ w',Bl w4 w'->w'.cell? ⟨w.heap.size+1,0,none⟩=some (.map (some w.heap.size))/\w'.cell? ⟨bl x,0,none⟩=some (.int .u8 t.kind)/\w'.cell? ⟨bl x,10,none⟩=some (.int .i64 t.tgt)/\w'.cell? ⟨bl x,11,none⟩=some (.int .i64 t.bi) /\
         (Instr.lookup 256 (.map (some w.heap.size)) (.int .i64 t.tgt) false).run Tryz.prog w'=.ok (.int .i64 (if t.tgt ∈ gs then 1 else 0)) w'/\(Instr.lookup 256 (.map (some w.heap.size)) (.int .i64 t.bi) false).run Tryz.prog w'=.ok (.int .i64 0) w' /\
         (ldW (.pointer (some ⟨bl x,0,none⟩))).run Tryz.prog w'=.ok (.value (.agg (thc t))) w'/\Bl w4 w'):=fun w' hb=>by
         have hG':=HG4.out.below hb;have hbl:=(HV.out.below hG'.b).blk x t Ht.out;obtain⟨q0,-,-,-,q6,q7,-,-⟩:=thc_cell hbl.1;have hwf3:=HV.out.ok.wf x t Ht.out;have l6:=hG'.look hwf3.tgt;have l7:=hG'.look hwf3.bi;rw [if_neg hB]at l7;exact⟨by rw [cell_blk hG'.cell];rfl,q0,q6,q7,l6,l7,loadWhat_blk hbl.1 rfl,hb⟩
        have h7:=hl7.out;rw [if_neg hB]at h7;have h6:=hl6.out
        by_cases h13:t.kind=13
        ·have k13:(t.kind != 13)=false:=by simpa using h13
         clear hA hB h13 h6
         go_wp2_with fail
         refine region_class (C:=fun w'=>Bl w4 w') (by kernel_rfl) (by kernel_rfl) ⟨rfl,rfl,rfl,Nat.le_refl _,fun _ _=>rfl⟩ ?_
         repeat (first
          | go_big_quiet_step (fail)
          | quiet_step (fail)
          | (refine wpQuiet_step (fun K hK=>?_);go_simp;first
           | (refine hK _ ?_;clear hK K)
           | (apply Exists.intro
              refine⟨fun w' hC=>?_,hK _ ?_⟩
              ·obtain⟨q1,q2,q3,q4,q5,q6,q7,q8⟩:=ds.out w' hC
               first
                | exact rfl
                | (go_simp;exact rfl)
                | (go_simp;exact⟨rfl,rfl⟩)
                | exact(hheld.out w').mono fun e w'' ⟨he,hb⟩=>⟨he,hC.trans (hb.mono hC.size)⟩
                | exact(containsRef_W w' _).mono fun e w'' ⟨he,hw⟩=>⟨he,hw ▸ hC⟩
                | (go_simp;exact(hheld.out w').mono fun e w'' ⟨he,hb⟩=>⟨he,hC.trans (hb.mono hC.size)⟩)
              clear hK K)))
         refine wpQuiet_nil ?_;intro w5 hC5;have HG5:=(show Hid (GI w w5 gs)from HG4.out.below hC5);have Hrg5:=(show Hid _ from Rg.below Hrg4.out hC5);clear hC5
         go_wp2_with fail
         go_roundw
         case rel=>exact⟨_,_,Hrg5,HG5,HL4⟩
         case measure =>
          rw [Rg.left_eq Hrg5.out,Rg.left_eq hrg.out];exact Hlt.out
        ·have k13:(t.kind != 13)=true:=by simpa using h13
         have ds2:Hid (∀ w',Bl w4 w'->(Instr.lookup 256 (.map (some w.heap.size)) (.int .i64 t.tgt) false).run Tryz.prog w'=.ok (.int .i64 0) w'):=fun w' hb=>by
          have:=(ds.out w' hb).2.2.2.2.1;rw [if_neg (fun h=>hA ⟨h13,h⟩)]at this;exact this
         clear hA hB h13 h6
         go_wp2_with fail
         refine region_class (C:=fun w'=>Bl w4 w') (by kernel_rfl) (by kernel_rfl) ⟨rfl,rfl,rfl,Nat.le_refl _,fun _ _=>rfl⟩ ?_
         repeat (first
          | go_big_quiet_step (fail)
          | quiet_step (fail)
          | (refine wpQuiet_step (fun K hK=>?_);go_simp;first
           | (refine hK _ ?_;clear hK K)
           | (apply Exists.intro
              refine⟨fun w' hC=>?_,hK _ ?_⟩
              ·obtain⟨q1,q2,q3,q4,-,q6,q7,q8⟩:=ds.out w' hC;have q5:=ds2.out w' hC
               first
                | exact rfl
                | (go_simp;exact rfl)
                | (go_simp;exact⟨rfl,rfl⟩)
                | exact(hheld.out w').mono fun e w'' ⟨he,hb⟩=>⟨he,hC.trans (hb.mono hC.size)⟩
                | exact(containsRef_W w' _).mono fun e w'' ⟨he,hw⟩=>⟨he,hw ▸ hC⟩
                | (go_simp;exact(hheld.out w').mono fun e w'' ⟨he,hb⟩=>⟨he,hC.trans (hb.mono hC.size)⟩)
              clear hK K)))
         refine wpQuiet_nil ?_;intro w5 hC5;have HG5:=(show Hid (GI w w5 gs)from HG4.out.below hC5);have Hrg5:=(show Hid _ from Rg.below Hrg4.out hC5);clear hC5
         go_wp2_with fail
         go_roundw
         case rel=>exact⟨_,_,Hrg5,HG5,HL4⟩
         case measure =>
          rw [Rg.left_eq Hrg5.out,Rg.left_eq hrg.out];exact Hlt.out
  ·intro x v w4 cnt' hx hLx hf hrg' hlt hk hsz hen;obtain⟨t,ht,rfl⟩:=thf_some hf;have HG4:=(show Hid (GI w w4 (l ++ fs))from HG0.out.keeps hk hr0);have Hlt:=(show Hid (cnt'<cnt)from hlt);have Hrg4:=(show Hid _ from hrg');have Hhx:=(show Hid ((Lit.int .i64 x).wf=true)from hx);obtain⟨k0,-,-,-,k6,-,-,-⟩:=thc_cell ((HV.out.below HG4.out.b).blk x t ht).1
   by_cases h14:t.kind=14
   rotate_left
   ·have k14:(t.kind != 14)=true:=by simpa using h14
    have HF4:=(show Hid (FI M l (fun z=>L z && !decide (z=x)) fs)from HFI.out.pass ht fun e=>absurd e h14);clear hx hLx hf hrg' hlt hk hsz ht h14 k6
    go_wp2_with fail
    go_roundw
    case rel=>exact⟨_,_,fs,Hrg4,HG4,HF4⟩
    case measure =>
     rw [Rg.left_eq Hrg4.out,Rg.left_eq hrg.out];exact Hlt.out
   ·have k14:(t.kind != 14)=false:=by simpa using h14
    have hxfs:x ∉ fs:=fun e=>by rw [(HFI.out.mem x e).1]at hLx;cases hLx
    have htfs:t.tgt ∉ fs:=fun e=>by
     obtain⟨-,u,h1,h2,-⟩:=HFI.out.mem _ e;exact ff.out x t ht h14 u h1 h2
    have hmx:(x ∈ l ++ fs) ↔ x ∈ l:=by simp [hxfs]
    have hmt:(t.tgt ∈ l ++ fs) ↔ t.tgt ∈ l:=by simp [htfs]
    have hwt:=(HV.out.ok.wf x t ht).tgt
    have hlx:∀ m,(Instr.lookup 256 (.map (some w.heap.size)) (.int .i64 x) false).run Tryz.prog (w4.drewN m)=.ok (.int .i64 (if x ∈ l then 1 else 0)) (w4.drewN m):=fun m=>by
     have:=(HG4.out.below (w':=w4.drewN m) ⟨rfl,rfl,rfl,Nat.le_refl _,fun _ _=>rfl⟩).look hx;simp only [hmx]at this;exact this
    have hlt6:∀ m,(Instr.lookup 256 (.map (some w.heap.size)) (.int .i64 t.tgt) false).run Tryz.prog (w4.drewN m)=.ok (.int .i64 (if t.tgt ∈ l then 1 else 0)) (w4.drewN m):=fun m=>by
     have:=(HG4.out.below (w':=w4.drewN m) ⟨rfl,rfl,rfl,Nat.le_refl _,fun _ _=>rfl⟩).look hwt;simp only [hmt]at this;exact this
    have g5:w4.cell? ⟨w.heap.size+1,0,none⟩=some (.map (some w.heap.size)):=by rw [cell_blk HG4.out.cell];rfl
    have HLn:Hid ((l ++ fs).length<1099511627776):=by
     have h1:=HFI.out.len;have h2:=List.length_filter_le (facOf l) M.things;have h3:=hlen.out;have h4:=hm.out;rw [List.length_map]at h1;show _<_;rw [List.length_append];omega
    by_cases htl:t.tgt ∈ l
    ·have HF4:=(show Hid (FI M l (fun z=>L z && !decide (z=x)) (fs ++ [x]))from HFI.out.add ht hLx h14 htl);have htl':(if t.tgt ∈ l then (1:Int)else 0)=1:=if_pos htl
     rw [htl']at hlt6
     by_cases hxl:x ∈ l
     ·have hxl':(if x ∈ l then (1:Int)else 0)=1:=if_pos hxl
      rw [hxl']at hlx;clear hx hLx hf hrg' hlt hk hsz ht h14 hxfs htfs hmx hmt hwt htl hxl htl' hxl'
      go_wp2_with fail
      go_quiet (fail)
      revert nq;intro na
      go_wp2_with fail
      go_quiet (fail)
      have hb6:Bl w4 ((w4.drewN na).drewN nq):=⟨rfl,rfl,rfl,Nat.le_refl _,fun _ _=>rfl⟩;have HG6:Hid (GI w ((w4.drewN na).drewN nq) (l ++ fs)):=HG4.out.below hb6;have Hr6:Hid (Rg ((w4.drewN na).drewN nq) tb r0 (thf M bl) (fun z=>L z && !decide (z=x)) cnt'):=Rg.below Hrg4.out hb6;clear hb6 hlx hlt6 g5 k0 k6 k14;generalize (w4.drewN na).drewN nq=w6 at *;obtain⟨w7,hrun,hG7,hk7⟩:=HG6.out.put2 HLn.out Hhx.out;have HG7:Hid (GI w w7 (l ++ (fs ++ [x]))):=by rw [<- List.append_assoc];exact hG7
      have Hr7:Hid (Rg w7 tb r0 (thf M bl) (fun z=>L z && !decide (z=x)) cnt'):=Hr6.out.of_blocks (hk7.block tb Hr6.out.ltb (by have:=HV.out.lt tb HV.out.own.2.2.2.1;omega)) (hk7.block r0 Hr6.out.lt (by omega));have g5:w6.cell? ⟨w.heap.size+1,0,none⟩=some (.map (some w.heap.size)):=by rw [cell_blk HG6.out.cell];rfl
      clear hG7 hk7
      go_wp2_with fail
      go_roundw
      case rel=>exact⟨_,_,fs ++ [x],Hr7,HG7,HF4⟩
      case measure =>
       rw [Rg.left_eq Hr7.out,Rg.left_eq hrg.out];exact Hlt.out
     ·have hxl':(if x ∈ l then (1:Int)else 0)=0:=if_neg hxl
      rw [hxl']at hlx;clear hx hLx hf hrg' hlt hk hsz ht h14 hxfs htfs hmx hmt hwt htl hxl htl' hxl'
      go_wp2_with fail
      go_quiet (fail)
      revert nq;intro na
      go_wp2_with fail
      go_quiet (fail)
      have hb6:Bl w4 ((w4.drewN na).drewN nq):=⟨rfl,rfl,rfl,Nat.le_refl _,fun _ _=>rfl⟩;have HG6:Hid (GI w ((w4.drewN na).drewN nq) (l ++ fs)):=HG4.out.below hb6;have Hr6:Hid (Rg ((w4.drewN na).drewN nq) tb r0 (thf M bl) (fun z=>L z && !decide (z=x)) cnt'):=Rg.below Hrg4.out hb6;clear hb6 hlx hlt6 g5 k0 k6 k14;generalize (w4.drewN na).drewN nq=w6 at *;obtain⟨w7,hrun,hG7,hk7⟩:=HG6.out.put2 HLn.out Hhx.out;have HG7:Hid (GI w w7 (l ++ (fs ++ [x]))):=by rw [<- List.append_assoc];exact hG7
      have Hr7:Hid (Rg w7 tb r0 (thf M bl) (fun z=>L z && !decide (z=x)) cnt'):=Hr6.out.of_blocks (hk7.block tb Hr6.out.ltb (by have:=HV.out.lt tb HV.out.own.2.2.2.1;omega)) (hk7.block r0 Hr6.out.lt (by omega));have g5:w6.cell? ⟨w.heap.size+1,0,none⟩=some (.map (some w.heap.size)):=by rw [cell_blk HG6.out.cell];rfl
      clear hG7 hk7
      go_wp2_with fail
      go_roundw
      case rel=>exact⟨_,_,fs ++ [x],Hr7,HG7,HF4⟩
      case measure =>
       rw [Rg.left_eq Hr7.out,Rg.left_eq hrg.out];exact Hlt.out
    ·have htl':(if t.tgt ∈ l then (1:Int)else 0)=0:=if_neg htl
     rw [htl']at hlt6
     by_cases hxl:x ∈ l
     ·have hxl':(if x ∈ l then (1:Int)else 0)=1:=if_pos hxl
      rw [hxl']at hlx;have HXH:Hid (∃ y ∈ M.things,heldX l y\/leanX (goneQ M l) y):=⟨(x,t),at_mem ht,.inl ⟨h14,Bool.eq_false_iff.2 fun e=>htl (List.contains_iff_mem.1 e),List.contains_iff_mem.2 hxl⟩⟩;have HD:=(show Hid (Bl w w4)from HG4.out.b);clear hx hLx hf hrg' hlt hk hsz ht h14 hxfs htfs hmx hmt hwt htl hxl htl' hxl'
      go_wp2_with fail
      go_quiet (fail)
      go_wp2_with fail
      go_ret
      exact .inr (.inl ⟨HP.out,rfl,HD.out.trans ⟨rfl,rfl,rfl,Nat.le_refl _,fun _ _=>rfl⟩,HXH.out⟩)
     ·have hxl':(if x ∈ l then (1:Int)else 0)=0:=if_neg hxl
      rw [hxl']at hlx;have HF4:=(show Hid (FI M l (fun z=>L z && !decide (z=x)) fs)from HFI.out.pass ht fun _=>⟨htl,hxl⟩);clear hx hLx hf hrg' hlt hk hsz ht h14 hxfs htfs hmx hmt hwt htl hxl htl' hxl'
      go_wp2_with fail
      go_quiet (fail)
      revert nq;intro na
      go_wp2_with fail
      go_quiet (fail)
      have hb6:Bl w4 ((w4.drewN na).drewN nq):=⟨rfl,rfl,rfl,Nat.le_refl _,fun _ _=>rfl⟩;have HG6:Hid (GI w ((w4.drewN na).drewN nq) (l ++ fs)):=HG4.out.below hb6;have Hr6:Hid (Rg ((w4.drewN na).drewN nq) tb r0 (thf M bl) (fun z=>L z && !decide (z=x)) cnt'):=Rg.below Hrg4.out hb6;clear hb6
      go_wp2_with fail
      go_roundw
      case rel=>exact⟨_,_,fs,Hr6,HG6,HF4⟩
      case measure =>
       rw [Rg.left_eq Hr6.out,Rg.left_eq hrg.out];exact Hlt.out
end
section
variable {w:World} {p q:Nat} {M:WM} {F G:Nat->Prop}
theorem TP.amounts (h:TP M):∀ x ∈ M.things,(0≤x.2.n/\x.2.n≤9007199254740992)/\0≤x.2.lost/\x.2.lost≤9007199254740992:=fun x hx=>by
 have z:((0:Int)≤0/\(0:Int)≤9007199254740992)/\(0:Int)≤0/\(0:Int)≤9007199254740992:=by decide
 rcases h.things x hx with ⟨k,hh,e,-⟩ | ⟨hh,n,e,hn⟩ | ⟨hh,n,e,hn⟩ | ⟨hh,g,e,-⟩ | ⟨y,d,e,-⟩ | ⟨hh,y,n,e,-⟩ | ⟨hh,y,n,e,-⟩ <;> rw [e]
 ·exact z
 ·exact⟨hn,z.2⟩
 ·exact⟨hn,z.2⟩
 ·exact z
 ·exact z
 ·exact z
 ·exact z
theorem TP.ltW (h:TP M):LtW M:=fun x hx=>by
 obtain⟨k,hh,n,tg,bi,s,e⟩:=(h.things x hx).lt;exact⟨_,_,_,_,_,_,_,_,e⟩
theorem TP.light (h:TP M):∀ r t,M.at r=some t->Light t:=fun r t ht=>by
 obtain⟨k,hh,n,tg,bi,s,e⟩:=(h.at ht).lt;exact⟨_,_,_,_,_,_,_,_,_,_,e,plain0⟩
theorem TP.ff (h:TP M):∀ r t,M.at r=some t->t.kind=14->∀ u,M.at t.tgt=some u->u.kind≠14:=fun r t ht hk u hu=>by
 rcases h.at ht with ⟨k,hh,e,h1⟩ | ⟨hh,m,e,-⟩ | ⟨hh,m,e,-⟩ | ⟨hh,m,e,-⟩ | ⟨x,d,e,⟨v,hv,h14⟩,-⟩ | ⟨hh,x,m,e,-⟩ | ⟨hh,x,m,e,-⟩
 ·have:k=14:=by rw [e]at hk;exact hk
  omega
 ·rw [e]at hk;exact absurd (show (3:Int)=14 from hk) (by decide)
 ·rw [e]at hk;exact absurd (show (8:Int)=14 from hk) (by decide)
 ·rw [e]at hk;exact absurd (show (13:Int)=14 from hk) (by decide)
 ·rw [e]at hu;have hu':M.at x=some u:=hu;rw [hv]at hu'
  cases hu'
  exact h14
 ·rw [e]at hk;exact absurd (show (15:Int)=14 from hk) (by decide)
 ·rw [e]at hk;exact absurd (show (16:Int)=14 from hk) (by decide)
def DropT (x:Int) (w:World) (p q:Nat) (M:WM) (F G:Nat->Prop) (r:Int):Prop:=∀ b c,w.cell? ⟨b,0,none⟩=some (.int .i64 r)->b<w.heap.size ->
 Calls Tryz.prog 105 #[.pointer (some ⟨p,0,none⟩),.slice (some ⟨b,0,none⟩) 1 c] w fun e w5=>e=.returned (.int .i64 x)/\Keeps (fun b=>F b\/G b) w w5 /\
  ∀ w',Bl w5 w'->∀ b' c',w'.cell? ⟨b',0,none⟩=some (.int .i64 r)->b'<w'.heap.size->Calls Tryz.prog 106 #[.pointer (some ⟨q,0,none⟩),.slice (some ⟨b',0,none⟩) 1 c'] w' fun e w6=>e=.returned (.int .i64 x)/\TStep w p q M F G w6/\Keeps G w' w6
theorem dropT2 (hP:TP M) (hl:M.last+2≤100000) {r:Int} (hr:(Lit.int .i64 r).wf=true):∃ x:Int,∀ w,TS w p q M F G->DropT x w p q M F G r:=by
 have hQ:=hP.q (by omega)
 have hd:∀ w',IsR w' q M G->∀ b' c',w'.cell? ⟨b',0,none⟩=some (.int .i64 r)->b'<w'.heap.size->Calls Tryz.prog 106 #[.pointer (some ⟨q,0,none⟩),.slice (some ⟨b',0,none⟩) 1 c'] w' (Drop7Post w' q M G [r]):=fun w' hR b' c' hc hb =>
  drop7_W (oL:=0) (ls:=[r]) hR hQ.good.ok hP.ltW hP.amounts (by simp) hb fun j x hx=>by
   match j,hx with
   | 0,hx=>simp at hx;subst hx;simpa using hc
 have hp:∀ w,IsW w p M F->∀ b c,w.cell? ⟨b,0,none⟩=some (.int .i64 r)->b<w.heap.size->Calls Tryz.prog 105 #[.pointer (some ⟨p,0,none⟩),.slice (some ⟨b,0,none⟩) 1 c] w (DropFPost w p M F [r]):=fun w hW b c hc hb =>
  DropF_W hW (m:=1) (l:=[r]) (show 1 = [r].length from rfl) (by decide) (.inr ⟨b,0,rfl,hb,fun j x hx=>by
   match j,hx with
   | 0,hx=>simp at hx;subst hx;simpa using hc⟩) (fun x hx=>by simp at hx;subst hx;exact hr) hP.ff hQ.good.ok.len hP.light
 by_cases h0:M.at r=none
 ·refine⟨5,fun w S b c hc hb=>(hp w S.W b c hc hb).mono ?_⟩;rintro e w5 (⟨rfl,hb5,-⟩ | ⟨h1,-⟩ | ⟨h1,-⟩)
  ·refine⟨rfl,Keeps.of_below hb5,fun w' hb' b' c' hc' hbl=>(hd w' (S.R.below (hb5.trans (hb'.mono hb5.size))) b' c' hc' hbl).mono ?_⟩;rintro e w6 (⟨rfl,hb6,-⟩ | ⟨k1,-⟩ | ⟨k1,-⟩)
   ·exact⟨rfl,S.same ((hb5.trans (hb'.mono hb5.size)).trans (hb6.mono (Nat.le_trans hb5.size hb'.size))),Keeps.of_below hb6⟩
   ·exact absurd h0 (k1 r (by simp))
   ·exact absurd h0 (k1 r (by simp))
  ·exact absurd h0 (h1 r (by simp))
  ·exact absurd h0 (h1 r (by simp))
 by_cases hx:∃ x ∈ M.things,heldX [r] x\/leanX (goneQ M [r]) x
 ·refine⟨72,fun w S b c hc hb=>(hp w S.W b c hc hb).mono ?_⟩;rintro e w5 (⟨-,-,k,hk,hk0⟩ | ⟨-,rfl,hb5,-⟩ | ⟨-,-,h2,-⟩)
  ·rw [List.mem_singleton.1 hk]at hk0;exact absurd hk0 h0
  ·refine⟨rfl,Keeps.of_below hb5,fun w' hb' b' c' hc' hbl=>(hd w' (S.R.below (hb5.trans (hb'.mono hb5.size))) b' c' hc' hbl).mono ?_⟩;rintro e w6 (⟨-,-,k,hk,hk0⟩ | ⟨k1,rfl,hb6,-⟩ | ⟨k1,-,k2,-⟩)
   ·rw [List.mem_singleton.1 hk]at hk0;exact absurd hk0 h0
   ·exact⟨rfl,S.same ((hb5.trans (hb'.mono hb5.size)).trans (hb6.mono (Nat.le_trans hb5.size hb'.size))),Keeps.of_below hb6⟩
   ·obtain⟨x,h3,h4⟩:=hx;exact(h4.elim (k2 x h3).1 (k2 x h3).2).elim
  ·obtain⟨x,h3,h4⟩:=hx;exact(h4.elim (h2 x h3).1 (h2 x h3).2).elim
 ·refine⟨0,fun w S b c hc hb=>(hp w S.W b c hc hb).mono ?_⟩;rintro e w5 (⟨-,-,k,hk,hk0⟩ | ⟨-,-,-,h2⟩ | ⟨h1,rfl,h2,ds,hds,hW,hk⟩)
  ·rw [List.mem_singleton.1 hk]at hk0;exact absurd hk0 h0
  ·exact absurd h2 hx
  ·rw [hP.drop_eq hds (goneQ_at hP.ok h1)]at hW
   have hle:¬ Lean' M (goneQ M [r]):=fun h=>by
    obtain⟨x,h3,h4⟩:=(lean_X hP.ok).1 h;exact(h2 x h3).2 h4
   have hP':=hP.drop hle hW.ok;have hg0:Grew F w F w5:=⟨hk,fun b h=>.inl h⟩;refine⟨rfl,hk.mono fun _ _ h=>.inl h,fun w' hb' b' c' hc' hbl=>(hd w' (S.R5 (hg0.on hb')) b' c' hc' hbl).mono ?_⟩;rintro e w6 (⟨-,-,k,hk,hk0⟩ | ⟨k1,rfl,hb6,k2⟩ | ⟨k1,rfl,k2,G',hR,hg6⟩)
   ·rw [List.mem_singleton.1 hk]at hk0;exact absurd hk0 h0
   ·exact absurd k2 hx
   ·exact⟨rfl,S.two (hW.below hb') (hg0.on hb') hR hg6 hP' (by show M.last≤M.last+2;omega),hg6.1⟩
end
end Go.Proofs.YthaliljaglldjaaGreat
