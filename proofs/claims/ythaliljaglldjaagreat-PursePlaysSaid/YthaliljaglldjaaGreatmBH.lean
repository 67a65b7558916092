/- A part of the proof, several texts in one: Drop, PyA. -/
import Derived.Test.YthaliljaglldjaaGreatmBG
import Derived.Test.YthaliljaglldjaaGreatmAE
import Derived.Test.YthaliljaglldjaaGreatmAL
import Derived.Test.YthaliljaglldjaaGreatmAQ
import Derived.Test.YthaliljaglldjaaGreatmBD
import Derived.Deep.RegionHeld3
import Derived.Deep.QuietTactic
import Derived.BigQuiet
import Derived.Deep.DeepCutAuto
import Derived.Deep.CutBlock
import Derived.Test.YthaliljaglldjaaGreatmBF
/- Drop where there are no facets, and nobody leans on what goes: what is left. -/
namespace Go.Proofs.YthaliljaglldjaaGreat
open Go.RowKit Go.ChangeMaps Go.MapKept
variable {w:World} {p:Nat} {M:WM} {F:Nat→Prop}
structure GI (w wr:World) (gs:List Int):Prop where
 b:Below w.heap.size w wr
 cell:wr.heap[w.heap.size + 1]? = some (.cells #[.map (some w.heap.size)] 256 (0,0))
 map:∃ n,n ≤ gs.length∧HasMap Tryz.prog 25 wr w.heap.size (gof gs) n
theorem GI.below {w wr w':World} {gs:List Int} (h:GI w wr gs) (hb:Below wr.heap.size wr w'):GI w w' gs where
 b:=h.b.trans (hb.mono h.b.size)
 cell:=below_blk hb h.cell
 map:=by
  obtain ⟨n,h1,h2⟩:=h.map
  exact ⟨n,h1,h2.of_block (hb.block _ h2.lt)⟩
theorem GI.look {w wr:World} {gs:List Int} (h:GI w wr gs) {r:Int} (hr:(Lit.int .i64 r).wf = true):(Instr.lookup 256 (.map (some w.heap.size)) (.int .i64 r) false).run Tryz.prog wr = .ok (.int .i64 (if r ∈ gs then 1 else 0)) wr:=by
 obtain ⟨n,-,h2⟩:=h.map
 rw [h2.look keyedRef Tryz.underlying256 (zeroInt wr) (key_ref hr)]
 simp only [gof]
 split <;> rfl
theorem GI.put {w wr:World} {gs:List Int} (h:GI w wr gs) (hl:gs.length < 1099511627776) {r:Int} (hr:(Lit.int .i64 r).wf = true) :
 ∃ w',(Instr.mapUpdate 256 (.map (some w.heap.size)) (.int .i64 r) (.int .i64 1)).run Tryz.prog wr = .ok () w'∧GI w w' (gs ++ [r]):=by
 obtain ⟨n,h1,h2⟩:=h.map
 obtain ⟨w',hrun,hm,ht⟩:=h2.store keyedRef Tryz.underlying256 (by unfold maxLen;omega) (key_ref hr) (.int .i64 1) (gof_snoc gs r).1 (gof_snoc gs r).2
 have hT:=Turned.of ht
 refine ⟨w',hrun,?_,(hT.block (by omega)).trans h.cell,_,?_,hm⟩
 ·exact h.b.trans (Keeps.below hT.2 h.b.size (fun x hx=>by omega))
 ·simp only [List.length_append,List.length_singleton]
  split <;> omega
theorem GI.keeps {w wr w':World} {gs:List Int} {r:Nat} (h:GI w wr gs) (hk:Keeps (fun y=>y = r) wr w') (hr:w.heap.size + 1 < r):GI w w' gs where
 b:=h.b.trans (Keeps.below hk h.b.size (fun x hx=>by omega))
 cell:=(hk.block _ (blk_lt h.cell) (by omega)).trans h.cell
 map:=by
  obtain ⟨n,h1,h2⟩:=h.map
  exact ⟨n,h1,h2.of_block (hk.block _ h2.lt (by omega))⟩
def Light (t:Th):Prop:=∃ k h vk vn n l tg bi s fu,t = lt k h vk vn n l tg bi s fu∧Plain vk vn
def leans (l:List Int) (t:Th):Prop:=(t.kind ≠ 13∧t.tgt ∈ l)∨t.bi ∈ l
def DropPost (w:World) (p:Nat) (M:WM) (F:Nat→Prop) (l:List Int) (e:Ending) (w':World):Prop :=
 (e = .returned (.int .i64 5)∧Below w.heap.size w w'∧∃ r ∈ l,M.at r = none) ∨
 ((∀ r ∈ l,M.at r ≠ none)∧((e = .returned (.int .i64 72)∧Below w.heap.size w w'∧Lean' M l) ∨
   (e = .returned (.int .i64 0)∧¬ Lean' M l∧∃ ds:List Int,ds.Nodup∧(∀ x,x ∈ ds ↔ x ∈ l)∧IsW w' p ((ds.foldl (WM.gone1 l) M).delL l) F∧Keeps F w w')))
set_option maxHeartbeats 2000000 in
set_option maxRecDepth 20000 in
theorem Drop_W (hW:IsW w p M F) {pa:Option Addr} {c m:Nat} {l:List Int} (hm:Hid (m = l.length)) (hml:m < 1099511627776) (hl:Hid (IntArg .i64 w pa l)) (hwf:Hid (∀ x ∈ l,(Lit.int .i64 x).wf = true))
 (nofacet:Hid (∀ r t,M.at r = some t→t.kind ≠ 14)) (light:Hid (∀ r t,M.at r = some t→Light t)) :
 Calls Tryz.prog 105 #[.pointer (some ⟨p,0,none⟩),.slice pa m c] w (DropPost w p M F l):=by
 have HW:Hid (IsW w p M F):=hW
 obtain ⟨pa',pc,cg,cc,mg,mc,tb,fb,fn,bl,hV⟩:=hW
 have HV:=(show Hid _ from hV)
 have hmm:=@run_makeMap Tryz.prog
 clear hV
 go_enter Tryz.func105,Tryz.ntmps105
 go_wp2_with fail
 refine (none_W HW.out).mono ?_
 rintro e _ ⟨rfl,rfl⟩
 go_upto_block 0 with fail
 go_cut [] (fun wx=>Hid (GI w wx l∧∀ r ∈ l,M.at r ≠ none))
 case first =>
  go_wp2_with fail
  go_loopw [21] (fun vi wr=>∃ k:Nat,vi = .int .i64 k∧k ≤ m∧Hid (GI w wr (l.take k)∧∀ r ∈ l.take k,M.at r ≠ none)) (fun vi _=>m - (intOf vi).toNat)
  case atStart =>
   refine ⟨0,rfl,Nat.zero_le _,⟨((Below.refl _ _).alloc (Nat.le_refl _) _).alloc (by simp) _,blk2_new _ _ _,0,Nat.le_refl _,?_⟩,by simp⟩
   exact ((HasMap.made w Tryz.prog 25).of_block (w':=(w.alloc (.map #[] 0)).alloc _) ((blk2_old w _ _).trans (blk_new w _).symm)).congr (fun key _ _=>by unfold gof;split <;> simp)
  case round =>
   obtain ⟨k,rfl,hk,HG⟩:=hrel
   by_cases hkm:k < m
   ·obtain ⟨x,hx⟩:∃ x,l[k]? = some x:=⟨_,List.getElem?_eq_getElem (by have:=hm.out;omega)⟩
    have hxl:x ∈ l:=List.mem_of_getElem? hx
    have hxw:=hwf.out x hxl
    have htk:l.take (k + 1) = l.take k ++ [x]:=by rw [List.take_add_one,hx];rfl
    obtain ⟨b,o,rfl,hc⟩:∃ b o,pa = some ⟨b,o,none⟩∧wr.cell? ⟨b,o + k,none⟩ = some (.int .i64 x):=by
     rcases hl.out with h | ⟨b,o,h1,h2,h3⟩
     ·rw [h] at hx;simp at hx
     ·exact ⟨b,o,h1,(HG.out.1.b.cell (p:=⟨b,o + k,none⟩) h2).trans (h3 k x hx)⟩
    have hkz:(k:Int) < (m:Int):=by omega
    have hwk:wrap64 ((k:Int) + 1) = (k:Int) + 1:=by unfold wrap64;omega
    have g5:wr.cell? ⟨w.heap.size + 1,0,none⟩ = some (.map (some w.heap.size)):=by rw [cell_blk HG.out.1.cell];rfl
    have Hxl:=(show Hid _ from hxl)
    have Htk:=(show Hid _ from htk)
    obtain ⟨w2,hrun,hG2⟩:=HG.out.1.put (by rw [List.length_take];omega) hxw
    have HG2:=(show Hid _ from hG2)
    have hI:=Is_W (HW.out.below HG.out.1.b) hxw
    clear hxl htk hx hG2
    cases ha:M.at x with
    | none =>
      rw [ha] at hI
      have Ha:=(show Hid _ from ha)
      clear ha
      go_wp2_with fail
      refine hI.mono ?_
      rintro e _ ⟨rfl,rfl⟩
      go_wp2_with fail
      go_ret
      exact .inl ⟨rfl,HG.out.1.b,x,Hxl.out,Ha.out⟩
    | some t =>
      rw [ha] at hI
      have Ha:=(show Hid _ from ha)
      clear ha
      go_wp2_with fail
      refine hI.mono ?_
      rintro e _ ⟨rfl,rfl⟩
      go_wp2_with fail
      go_roundw
      case rel =>
       refine ⟨k + 1,by go_num,by omega,?_,?_⟩
       ·rw [Htk.out];exact HG2.out
       ·rw [Htk.out]
        intro r hr
        rcases List.mem_append.1 hr with h | h
        ·exact HG.out.2 r h
        ·simp at h
         rw [h,Ha.out]
         simp
      case measure=>simp [intOf];omega
   ·have hkz:¬ (k:Int) < (m:Int):=by omega
    have hkm':k = m:=by omega
    have Hl:Hid (l.take k = l):=by show _ = _;rw [hkm',hm.out,List.take_length]
    clear hkm'
    go_wp2_with fail
    go_meet
    case rel =>
     have:=HG.out
     rw [Hl.out] at this
     exact this
 have HP:=(show Hid (∀ r ∈ l,M.at r ≠ none) from hcut.out.2)
 have HGc:=(show Hid (GI w wc l) from hcut.out.1)
 have c2:=(HV.out.below hcut.out.1.b).c2
 have Hth:=(show Hid _ from (HV.out.below hcut.out.1.b).things)
 have hr0:w.heap.size + 1 < wc.heap.size:=blk_lt hcut.out.1.cell
 clear hcut
 go_wp2_with (first | (at_range;refine range_H rfl _ 137 146 rfl Tryz.underlying137 tb _ (thf M bl) rfl Hth.out ?_;intro w3 L cnt hrg hL hb3))
 go_frame
 have HG3:=(show Hid (GI w w3 l) from HGc.out.below hb3)
 have Hrg3:=(show Hid _ from hrg)
 clear hrg hL hb3 c2 HGc Hth
 generalize wc.heap.size = r0 at *
 clear wc
 go_loopw [] (fun wr=>∃ L cnt,Hid (Rg wr tb r0 (thf M bl) L cnt)∧Hid (GI w wr l)) (fun wr=>wr.rangeLeft tb r0)
 case atStart=>exact ⟨L,cnt,Hrg3,HG3⟩
 case round =>
  clear HG3 Hrg3
  obtain ⟨L,cnt,hrg,HG⟩:=hrel
  go_wp2_with (first | (at_next;refine next_H rfl _ rfl tb r0 (thf M bl) L cnt rfl hrg.out ?_ ?_))
  ·intro _
   have c2:=(HV.out.below HG.out.b).c2
   have Hth:=(show Hid _ from (HV.out.below HG.out.b).things)
   have hr1:w.heap.size + 1 < wr.heap.size:=blk_lt HG.out.cell
   clear hrg hr0
   go_wp2_with (first | (at_range;refine range_H rfl _ 137 146 rfl Tryz.underlying137 tb _ (thf M bl) rfl Hth.out ?_;intro w3 L cnt hrg hL hb3))
   go_frame
   have HG3:=(show Hid (GI w w3 l) from HG.out.below hb3)
   have Hrg3:=(show Hid _ from hrg)
   have HL:=(show Hid (∀ q t,M.at q = some t→L q = false→q ∈ l∨¬ leans l t) from fun q t hq hLq=>by
    rw [hL q ((HV.out.ok).at_wf hq),thf,hq] at hLq
    simp at hLq)
   clear hrg hL hb3 c2 HG Hth
   generalize wr.heap.size = r1 at *
   obtain ⟨wo,hwo⟩:∃ wo:World,wo = wr:=⟨_,rfl⟩
   subst hwo
   go_loopw [] (fun wr=>∃ L cnt,Hid (Rg wr tb r1 (thf M bl) L cnt)∧Hid (GI w wr l)∧Hid (∀ q t,M.at q = some t→L q = false→q ∈ l∨¬ leans l t)) (fun wr=>wr.rangeLeft tb r1)
   case atStart=>exact ⟨L,cnt,Hrg3,HG3,HL⟩
   case round =>
    clear HG3 Hrg3 HL
    obtain ⟨L,cnt,hrg,HG,HL⟩:=hrel
    go_wp2_with (first | (at_next;refine next_H rfl _ rfl tb r1 (thf M bl) L cnt rfl hrg.out ?_ ?_))
    ·intro hdone
     have HN:=(show Hid (¬ Lean' M l) from fun ⟨q,t,h1,h2,h3⟩=>by
      rcases HL.out q t h1 (hdone q (HV.out.ok.at_wf h1)) with h | h
      ·exact h2 h
      ·exact h h3)
     clear hdone HL hrg hr1
     have Hgm:=(show Hid _ from HG.out.map)
     have Hflt:=(show Hid (∀ b,F b→b < w.heap.size) from HV.out.lt)
     have g5:wr.cell? ⟨w.heap.size + 1,0,none⟩ = some (.map (some w.heap.size)):=by rw [cell_blk HG.out.cell];rfl
     have HGr:=(show Hid (GI w wr l) from HG.out)
     clear HG
     obtain ⟨gn,-,hgm⟩:=Hgm.out
     have HM:=(show Hid _ from hgm)
     clear hgm Hgm
     go_wp2_with (first | (at_range;refine range_H rfl _ 256 3 rfl Tryz.underlying256 w.heap.size _ (gof l) rfl HM.out ?_;intro w3 L cnt hrg hL hb3))
     go_frame
     have HG3:=(show Hid (G4 w p M F pa' pc cg cc mg mc tb fb fn bl l wr.heap.size L cnt [] w3) from {
      rg:=hrg
      k:=Keeps.of_below (HGr.out.b.trans (hb3.mono HGr.out.b.size))
      cell:=below_blk hb3 HGr.out.cell
      map:=⟨gn,HasMap.of_block (n:=gn) HM.out (hb3.block _ (HasMap.lt (n:=gn) HM.out))⟩
      wv:=HV.out.below (HGr.out.b.trans (hb3.mono HGr.out.b.size))
      flt:=Hflt.out
      rlt:=blk_lt HGr.out.cell })
     have HD3:=(show Hid (Ds l L []) from Ds.start hL)
     clear hrg hL hb3 g5 HM HGr
     generalize wr.heap.size = r2 at *
     go_loopw [] (fun wr=>∃ L cnt ds,Hid (G4 w p M F pa' pc cg cc mg mc tb fb fn bl l r2 L cnt ds wr)∧Hid (Ds l L ds)) (fun wr=>wr.rangeLeft w.heap.size r2)
     case atStart=>exact ⟨L,cnt,[],HG3,HD3⟩
     case round =>
      clear HG3 HD3
      obtain ⟨L,cnt,ds,HG,HD⟩:=hrel
      go_wp2_with (first | (at_next;refine next_H rfl _ rfl w.heap.size r2 (gof l) L cnt rfl HG.out.rg ?_ ?_))
      ·intro hdone
       have Hds:=(show Hid (ds.Nodup∧∀ x,x ∈ ds ↔ x ∈ l) from HD.out.done hwf.out hdone)
       have HN4:=(show Hid ((ds.foldl (WM.gone1 l) M).ok∧¬ Lean' (ds.foldl (WM.gone1 l) M) l∧∀ q t,(ds.foldl (WM.gone1 l) M).at q = some t→t.kind ≠ 14) from ⟨HG.out.wv.ok,fold_lean ds HV.out.ok HN.out,fold_kind ds HV.out.ok nofacet.out⟩)
       have HWVo:=(show Hid (WV wr p (ds.foldl (WM.gone1 l) M) F pa' pc cg cc mg mc tb fb fn bl) from HG.out.wv)
       generalize hN:ds.foldl (WM.gone1 l) M = N at *
       have HNs:=(show Hid (ds.foldl (WM.gone1 l) M = N) from hN)
       clear hN hdone HD
       have g5:wr.cell? ⟨w.heap.size + 1,0,none⟩ = some (.map (some w.heap.size)):=by rw [cell_blk HG.out.cell];rfl
       obtain ⟨gn,hgm⟩:=HG.out.map
       have HM:=(show Hid _ from hgm)
       clear hgm
       go_wp2_with (first | (at_range;refine range_H rfl _ 256 3 rfl Tryz.underlying256 w.heap.size _ (gof l) rfl HM.out ?_;intro w3 L3 cnt3 hrg hL hb3))
       go_frame
       have hnil:N.delL [] = N:=WM.delL_nil N
       have HG3:=(show Hid (G5 w wr F tb bl N l wr.heap.size L3 cnt3 [] w3) from {
        rg:=hrg
        k:=HG.out.k.then_below hb3
        sz:=hb3.size
        oth:=fun b hF _=>hb3.block b (HWVo.out.lt b hF)
        things:=by rw [hnil];exact HWVo.out.things.of_block (hb3.block _ HWVo.out.things.lt)
        rlt:=blk_lt HG.out.cell })
       have HD3:=(show Hid (Ds l L3 []) from Ds.start hL)
       clear hrg hL hb3 g5 HM HG hnil
       generalize wr.heap.size = r3 at *
       obtain ⟨wo,hwo⟩:∃ wo:World,wo = wr:=⟨_,rfl⟩
       subst hwo
       go_loopw [] (fun wr=>∃ L cnt es,Hid (G5 w wo F tb bl N l r3 L cnt es wr)∧Hid (Ds l L es)) (fun wr=>wr.rangeLeft w.heap.size r3)
       case atStart=>exact ⟨L3,cnt3,[],HG3,HD3⟩
       case round =>
        clear HG3 HD3
        obtain ⟨L,cnt,es,HG,HD⟩:=hrel
        go_wp2_with (first | (at_next;refine next_H rfl _ rfl w.heap.size r3 (gof l) L cnt rfl HG.out.rg ?_ ?_))
        ·intro hdone
         have Hes:=(show Hid (es.Nodup∧∀ x,x ∈ es ↔ x ∈ l) from HD.out.done hwf.out hdone)
         clear hdone
         go_wp2_with fail
         go_ret
         refine .inr ⟨HP.out,.inr ⟨rfl,HN.out,ds,Hds.out.1,Hds.out.2,?_,HG.out.k⟩⟩
         rw [HNs.out,← N.delL_congr Hes.out.2]
         refine ⟨pa',pc,cg,cc,mg,mc,tb,fb,fn,bl,HWVo.out.goneL HN4.out.2.2 ?_ HG.out.sz HG.out.oth HG.out.things⟩
         intro h
         apply HN4.out.2.1
         obtain ⟨q,t,h1,h2,h3⟩:=h
         exact ⟨q,t,h1,fun e=>h2 ((Hes.out.2 q).2 e),h3.imp (fun h=>⟨h.1,(Hes.out.2 _).1 h.2⟩) (fun h=>(Hes.out.2 _).1 h)⟩
        ·intro x v w4 cnt' hx hLx hf hrg' hlt hk hsz hen
         have hxl:=gof_some hf
         have HG4:=(show Hid (G5 w wo F tb bl N l r3 (fun z=>L z && !decide (z = x)) cnt' es w4) from HG.out.next Hflt.out HWVo.out.own.2.2.2.1 hrg' hk)
         have HD4:=(show Hid (Ds l (fun z=>L z && !decide (z = x)) (es ++ [x])) from HD.out.step hxl hLx)
         have Hlt:=(show Hid (cnt' < cnt) from hlt)
         have Hcnt:=(show Hid (wr.rangeLeft w.heap.size r3 = cnt) from HG.out.rg.left_eq)
         have c2:w4.cell? ⟨p,2,none⟩ = some (.map (some tb)):=by
          have hp:=HWVo.out.hp
          obtain ⟨es0,cl0,htb0⟩:=HWVo.out.things.is
          have:=(HG4.out.oth p HWVo.out.own.1 (HWVo.out.ne_of_obj hp htb0 (by simp))).trans hp
          rw [cell_blk this]
          rfl
         obtain ⟨w5,hrun,hG5⟩:=HG4.out.drop HN4.out.1 Hflt.out HWVo.out.own.2.2.2.1 hx 0
         have HG5:=(show Hid _ from hG5)
         clear hxl hLx hf hrg' hlt hk hsz HG HD hG5
         go_wp2_with fail
         go_roundw
         case rel=>exact ⟨_,_,es ++ [x],HG5,HD4⟩
         case measure =>
          rw [Hcnt.out,(show Hid (G5 w wo F tb bl N l r3 _ cnt' (es ++ [x]) w5) from HG5).out.rg.left_eq]
          exact Hlt.out
      ·intro x v w4 cnt' hx hLx hf hrg' hlt hk hsz hen
       have hxl:=gof_some hf
       have HG4:=(show Hid (G4 w p M F pa' pc cg cc mg mc tb fb fn bl l r2 (fun z=>L z && !decide (z = x)) cnt' ds w4) from HG.out.next hrg' hk)
       have HD4:=(show Hid (Ds l (fun z=>L z && !decide (z = x)) (ds ++ [x])) from HD.out.step hxl hLx)
       have Hlt:=(show Hid (cnt' < cnt) from hlt)
       obtain ⟨t,ht⟩:∃ t,(ds.foldl (WM.gone1 l) M).at x = some t:=by
        rw [fold_at hxl ds HV.out.ok]
        exact Option.ne_none_iff_exists'.1 (HP.out x hxl)
       have Hcnt:=(show Hid (wr.rangeLeft w.heap.size r2 = cnt) from HG.out.rg.left_eq)
       have Ht:=(show Hid _ from ht)
       have Hxl:=(show Hid (x ∈ l) from hxl)
       have c2:=HG4.out.wv.c2
       have hlk:=HG4.out.wv.look hx
       rw [ht] at hlk
       simp only [Option.map_some] at hlk
       have k0:=(thc_cell (HG4.out.wv.blk x t ht).1).1
       have k14:(t.kind == 14) = false:=by simpa using fold_kind ds HV.out.ok nofacet.out x t ht
       have hstep:(ds ++ [x]).foldl (WM.gone1 l) M = WM.gone1 l (ds.foldl (WM.gone1 l) M) x:=by simp
       have Hstep:=(show Hid _ from hstep)
       have HWV:=(show Hid (WV w4 p (ds.foldl (WM.gone1 l) M) F pa' pc cg cc mg mc tb fb fn bl) from HG4.out.wv)
       generalize hN:ds.foldl (WM.gone1 l) M = N at *
       clear hxl hLx hf hrg' hlt hk hsz HG HD ht hstep
       by_cases h9:t.kind = 9
       ·have k9:(t.kind == 9) = true:=by simpa using h9
        obtain ⟨u,hu,hu8⟩:=HWV.out.ok.purse x t Ht.out h9
        have Hu:=(show Hid (N.at t.tgt = some u) from hu)
        have k6:=(thc_cell (HWV.out.blk x t Ht.out).1).2.2.2.2.1
        have hwt:=(HWV.out.ok.wf x t Ht.out).tgt
        have hlk6:=HWV.out.look_drewN hwt hu
        have hl6:=(show Hid (∀ m,(Instr.lookup 256 (.map (some w.heap.size)) (.int .i64 t.tgt) false).run Tryz.prog (w4.drewN m) = .ok (.int .i64 (if t.tgt ∈ l then 1 else 0)) (w4.drewN m)) from fun m=>(HG4.out.below (w':=w4.drewN m) ⟨rfl,rfl,rfl,Nat.le_refl _,fun _ _=>rfl⟩).look hwt)
        have h6:=hl6.out
        have g5:w4.cell? ⟨w.heap.size + 1,0,none⟩ = some (.map (some w.heap.size)):=by rw [cell_blk HG4.out.cell];rfl
        by_cases hin:t.tgt ∈ l
        ·rw [if_pos hin] at h6
         have Hsame:Hid (WM.gone1 l N x = N):=by show WM.gone1 l N x = N;simp [WM.gone1,Ht.out,h9,hin]
         clear h9 hu hu8 hwt hin
         go_wp2_with fail
         go_quiet (fail)
         revert nq
         intro na
         go_wp2_with fail
         go_quiet (fail)
         have HG6:=(show Hid (G4 w p M F pa' pc cg cc mg mc tb fb fn bl l r2 (fun z=>L z && !decide (z = x)) cnt' ds ((w4.drewN na).drewN nq)) from HG4.out.below ⟨rfl,rfl,rfl,Nat.le_refl _,fun _ _=>rfl⟩)
         have HWV6:=(show Hid (WV ((w4.drewN na).drewN nq) p N F pa' pc cg cc mg mc tb fb fn bl) from HWV.out.below ⟨rfl,rfl,rfl,Nat.le_refl _,fun _ _=>rfl⟩)
         clear hlk6 h6 hl6 g5 c2 hlk k0 k6
         generalize (w4.drewN na).drewN nq = w6 at *
         go_wp2_with fail
         go_roundw
         case rel=>exact ⟨_,_,ds ++ [x],HG6.out.turned (Keeps.refl _ _) (by rw [Hstep.out,Hsame.out];exact HWV6.out),HD4⟩
         case measure =>
          rw [Hcnt.out,HG6.out.rg.left_eq]
          exact Hlt.out
        ·rw [if_neg hin] at h6
         have Hset:Hid (WM.gone1 l N x = N.set t.tgt { u with lost:=min u.n (wrap64 (u.lost + t.n)) }):=by show WM.gone1 l N x = _;simp [WM.gone1,Ht.out,h9,hin,hu]
         clear h9 hu hu8 hwt
         go_wp2_with fail
         go_quiet (fail)
         revert nq
         intro na
         go_wp2_with fail
         go_quiet (fail)
         have HG6:=(show Hid (G4 w p M F pa' pc cg cc mg mc tb fb fn bl l r2 (fun z=>L z && !decide (z = x)) cnt' ds ((w4.drewN na).drewN nq)) from HG4.out.below ⟨rfl,rfl,rfl,Nat.le_refl _,fun _ _=>rfl⟩)
         have HWV6:=(show Hid (WV ((w4.drewN na).drewN nq) p N F pa' pc cg cc mg mc tb fb fn bl) from HWV.out.below ⟨rfl,rfl,rfl,Nat.le_refl _,fun _ _=>rfl⟩)
         clear hlk6 h6 hl6 g5 c2 hlk k0 k6
         generalize (w4.drewN na).drewN nq = w6 at *
         have HG7:Hid (G4 w p M F pa' pc cg cc mg mc tb fb fn bl l r2 (fun z=>L z && !decide (z = x)) cnt' (ds ++ [x]) (w6.setCell ⟨bl t.tgt,9,none⟩ (.int .i64 (if wrap64 (u.lost + t.n) < u.n then wrap64 (u.lost + t.n) else u.n))).drew):=by
          have hwv:=(HWV6.out.cellSet (r:=t.tgt) (u:=u) (t:={ u with lost:=min u.n (wrap64 (u.lost + t.n)) }) ⟨Hu.out,rfl,rfl,fun _=>rfl,(HWV6.out.ok.wf _ _ Hu.out).tgt,rfl,rfl⟩ (set_lost _) ⟨rfl,rfl,rfl,rfl,rfl,rfl⟩).drew
          rw [min_if]
          have hk:Keeps F w6 (w6.setCell ⟨bl t.tgt,9,none⟩ (.int .i64 (min u.n (wrap64 (u.lost + t.n))))).drew:=(Keeps.setCell w6 ⟨bl t.tgt,9,none⟩ _ (HWV6.out.blk _ u Hu.out).2.1).drew
          refine HG6.out.turned hk ?_
          rw [Hstep.out,Hset.out]
          exact hwv
         have HG8:Hid (G4 w p M F pa' pc cg cc mg mc tb fb fn bl l r2 (fun z=>L z && !decide (z = x)) cnt' (ds ++ [x]) (w6.setCell ⟨bl t.tgt,9,none⟩ (.int .i64 (min u.n (wrap64 (u.lost + t.n))))).drew):=by
          have h:=HG7.out
          rw [min_if] at h
          exact h
         obtain ⟨-,-,e8,-,-,-,-,-⟩:=thc_cell (HWV6.out.blk x t Ht.out).1
         obtain ⟨-,-,f8,f9,-,-,-,-⟩:=thc_cell (HWV6.out.blk _ u Hu.out).1
         have ffr:=frozen_blk (HWV6.out.blk _ u Hu.out).1 9
         go_wp2_with fail
         go_still_tail 17,(by kernel_rfl)
         change wpList _ _ _ _ _ w6.drew
         go_wp2_with fail
         go_roundw
         case rel=>first | exact ⟨_,_,ds ++ [x],HG7.out,HD4⟩ | exact ⟨_,_,ds ++ [x],HG8.out,HD4⟩
         case measure=>first
          | (rw [Hcnt.out,HG7.out.rg.left_eq];exact Hlt.out)
          | (rw [Hcnt.out,HG8.out.rg.left_eq];exact Hlt.out)
       ·by_cases h15:t.kind = 15
        ·have k9:(t.kind == 9) = false:=by simpa using h9
         have k15:(t.kind == 15) = true:=by simpa using h15
         obtain ⟨u,hu,hu13⟩:=HWV.out.ok.gate x t Ht.out h15
         have Hu:=(show Hid (N.at t.bi = some u) from hu)
         have Hu13:=(show Hid (u.kind = 13) from hu13)
         have k7:=(thc_cell (HWV.out.blk x t Ht.out).1).2.2.2.2.2.1
         have hwt:=(HWV.out.ok.wf x t Ht.out).bi
         have Hwt:=(show Hid _ from hwt)
         have hl6:=(show Hid (∀ m,(Instr.lookup 256 (.map (some w.heap.size)) (.int .i64 t.bi) false).run Tryz.prog (w4.drewN m) = .ok (.int .i64 (if t.bi ∈ l then 1 else 0)) (w4.drewN m)) from fun m=>(HG4.out.below (w':=w4.drewN m) ⟨rfl,rfl,rfl,Nat.le_refl _,fun _ _=>rfl⟩).look hwt)
         have h6:=hl6.out
         have g5:w4.cell? ⟨w.heap.size + 1,0,none⟩ = some (.map (some w.heap.size)):=by rw [cell_blk HG4.out.cell];rfl
         by_cases hin:t.bi ∈ l
         ·rw [if_pos hin] at h6
          have Hsame:Hid (WM.gone1 l N x = N):=by show WM.gone1 l N x = N;simp [WM.gone1,Ht.out,h15,hin]
          clear h9 h15 hu hu13 hwt hin
          go_wp2_with fail
          go_quiet (fail)
          have HG6:=(show Hid (G4 w p M F pa' pc cg cc mg mc tb fb fn bl l r2 (fun z=>L z && !decide (z = x)) cnt' ds (w4.drewN nq)) from HG4.out.below ⟨rfl,rfl,rfl,Nat.le_refl _,fun _ _=>rfl⟩)
          have HWV6:=(show Hid (WV (w4.drewN nq) p N F pa' pc cg cc mg mc tb fb fn bl) from HWV.out.below ⟨rfl,rfl,rfl,Nat.le_refl _,fun _ _=>rfl⟩)
          clear h6 hl6 g5 c2 hlk k0 k7
          generalize w4.drewN nq = w6 at *
          go_wp2_with fail
          go_roundw
          case rel=>exact ⟨_,_,ds ++ [x],HG6.out.turned (Keeps.refl _ _) (by rw [Hstep.out,Hsame.out];exact HWV6.out),HD4⟩
          case measure =>
           rw [Hcnt.out,HG6.out.rg.left_eq]
           exact Hlt.out
         ·rw [if_neg hin] at h6
          have Hset:Hid (WM.gone1 l N x = N.set t.bi { u with tgt:=0 }):=by show WM.gone1 l N x = _;simp [WM.gone1,Ht.out,h15,hin,hu]
          clear h9 h15 hu hu13 hwt
          go_wp2_with fail
          go_quiet (fail)
          have HG6:=(show Hid (G4 w p M F pa' pc cg cc mg mc tb fb fn bl l r2 (fun z=>L z && !decide (z = x)) cnt' ds (w4.drewN nq)) from HG4.out.below ⟨rfl,rfl,rfl,Nat.le_refl _,fun _ _=>rfl⟩)
          have HWV6:=(show Hid (WV (w4.drewN nq) p N F pa' pc cg cc mg mc tb fb fn bl) from HWV.out.below ⟨rfl,rfl,rfl,Nat.le_refl _,fun _ _=>rfl⟩)
          clear h6 hl6 g5 c2 hlk k0 k7
          generalize w4.drewN nq = w6 at *
          have HG7:Hid (G4 w p M F pa' pc cg cc mg mc tb fb fn bl l r2 (fun z=>L z && !decide (z = x)) cnt' (ds ++ [x]) (w6.setCell ⟨bl t.bi,10,none⟩ (.int .i64 0)).drew):=by
           have hwv:=(HWV6.out.cellSet (r:=t.bi) (u:=u) (t:={ u with tgt:=0 }) ⟨Hu.out,rfl,rfl,fun h=>absurd Hu13.out h,rfl,rfl,rfl⟩ (set_tgt _) ⟨rfl,rfl,rfl,rfl,rfl,rfl⟩).drew
           have hk:Keeps F w6 (w6.setCell ⟨bl t.bi,10,none⟩ (.int .i64 0)).drew:=(Keeps.setCell w6 ⟨bl t.bi,10,none⟩ _ (HWV6.out.blk _ u Hu.out).2.1).drew
           refine HG6.out.turned hk ?_
           rw [Hstep.out,Hset.out]
           exact hwv
          obtain ⟨-,-,-,-,-,e11,-,-⟩:=thc_cell (HWV6.out.blk x t Ht.out).1
          obtain ⟨-,-,-,-,f10,-,-,-⟩:=thc_cell (HWV6.out.blk _ u Hu.out).1
          have ffr:=frozen_blk (HWV6.out.blk _ u Hu.out).1 10
          have c26:=HWV6.out.c2
          have hlk7:=(HWV6.out.drew).look Hwt.out
          rw [Hu.out] at hlk7
          simp only [Option.map_some] at hlk7
          go_wp2_with fail
          go_still_tail 11,(by kernel_rfl)
          change wpList _ _ _ _ _ w6.drew
          go_wp2_with fail
          go_roundw
          case rel=>exact ⟨_,_,ds ++ [x],HG7.out,HD4⟩
          case measure =>
           rw [Hcnt.out,HG7.out.rg.left_eq]
           exact Hlt.out
        ·have k9:(t.kind == 9) = false:=by simpa using h9
         have k15:(t.kind == 15) = false:=by simpa using h15
         have Hsame:Hid (WM.gone1 l N x = N):=by show WM.gone1 l N x = N;simp [WM.gone1,Ht.out,h9,h15]
         clear h9 h15
         go_wp2_with fail
         go_roundw
         case rel =>
          exact ⟨_,_,ds ++ [x],HG4.out.turned (Keeps.refl _ _) (by rw [Hstep.out,Hsame.out];exact HWV.out),HD4⟩
         case measure =>
          rw [Hcnt.out,HG4.out.rg.left_eq]
          exact Hlt.out
    ·intro x v w4 cnt' hx hLx hf hrg' hlt hk hsz hen
     obtain ⟨t,ht,rfl⟩:=thf_some hf
     have HG4:=(show Hid (GI w w4 l) from HG.out.keeps hk hr1)
     have Hlt:=(show Hid (cnt' < cnt) from hlt)
     have Hrg4:=(show Hid _ from hrg')
     have Ht:=(show Hid (M.at x = some t) from ht)
     have g5:w4.cell? ⟨w.heap.size + 1,0,none⟩ = some (.map (some w.heap.size)):=by rw [cell_blk HG4.out.cell];rfl
     have hlk:=HG4.out.look hx
     clear hLx hf hrg' hlt hk hsz ht
     by_cases hxl:x ∈ l
     ·rw [if_pos hxl] at hlk
      have HL4:=(show Hid (∀ q t,M.at q = some t→(L q && !decide (q = x)) = false→q ∈ l∨¬ leans l t) from fun q u hq hLq=>by
       by_cases e:q = x
       ·exact .inl (e ▸ hxl)
       ·exact HL.out q u hq (by simpa [e] using hLq))
      clear hxl
      go_wp2_with fail
      go_roundw
      case rel=>exact ⟨_,_,Hrg4,HG4,HL4⟩
      case measure =>
       rw [Rg.left_eq Hrg4.out,Rg.left_eq hrg.out]
       exact Hlt.out
     ·rw [if_neg hxl] at hlk
      have Hxl:=(show Hid _ from hxl)
      have hblk:=((HV.out.below HG4.out.b).blk x t Ht.out).1
      obtain ⟨k0,-,-,-,k6,k7,-,-⟩:=thc_cell hblk
      have hwf2:=HV.out.ok.wf x t Ht.out
      have hl6:=(show Hid (∀ m,(Instr.lookup 256 (.map (some w.heap.size)) (.int .i64 t.tgt) false).run Tryz.prog (w4.drewN m) = .ok (.int .i64 (if t.tgt ∈ l then 1 else 0)) (w4.drewN m)) from fun m=>(HG4.out.below (w':=w4.drewN m) ⟨rfl,rfl,rfl,Nat.le_refl _,fun _ _=>rfl⟩).look hwf2.tgt)
      have hl7:=(show Hid (∀ m,(Instr.lookup 256 (.map (some w.heap.size)) (.int .i64 t.bi) false).run Tryz.prog (w4.drewN m) = .ok (.int .i64 (if t.bi ∈ l then 1 else 0)) (w4.drewN m)) from fun m=>(HG4.out.below (w':=w4.drewN m) ⟨rfl,rfl,rfl,Nat.le_refl _,fun _ _=>rfl⟩).look hwf2.bi)
      have HD:=(show Hid (Below w.heap.size w w4) from HG4.out.b)
      clear hxl hwf2
      by_cases hA:t.kind ≠ 13∧t.tgt ∈ l
      ·have hlean:=(show Hid (Lean' M l) from ⟨x,t,Ht.out,Hxl.out,.inl hA⟩)
       have k13:(t.kind != 13) = true:=by simpa using hA.1
       have h6:=hl6.out
       rw [if_pos hA.2] at h6
       clear hA hblk
       go_wp2_with fail
       go_quiet (fail)
       go_wp2_with fail
       go_ret
       exact .inr ⟨HP.out,.inl ⟨rfl,HD.out.trans ⟨rfl,rfl,rfl,Nat.le_refl _,fun _ _=>rfl⟩,hlean.out⟩⟩
      ·by_cases hB:t.bi ∈ l
       ·have hlean:=(show Hid (Lean' M l) from ⟨x,t,Ht.out,Hxl.out,.inr hB⟩)
        have h7:=hl7.out
        rw [if_pos hB] at h7
        have h6:=hl6.out
        by_cases h13:t.kind = 13
        ·have k13:(t.kind != 13) = false:=by simpa using h13
         clear hA hB h13 hblk h6
         go_wp2_with fail
         go_quiet (fail)
         go_wp2_with fail
         go_ret
         exact .inr ⟨HP.out,.inl ⟨rfl,HD.out.trans ⟨rfl,rfl,rfl,Nat.le_refl _,fun _ _=>rfl⟩,hlean.out⟩⟩
        ·have k13:(t.kind != 13) = true:=by simpa using h13
         rw [if_neg (fun h=>hA ⟨h13,h⟩)] at h6
         clear hA hB h13 hblk
         go_wp2_with fail
         go_quiet (fail)
         go_wp2_with fail
         go_ret
         exact .inr ⟨HP.out,.inl ⟨rfl,HD.out.trans ⟨rfl,rfl,rfl,Nat.le_refl _,fun _ _=>rfl⟩,hlean.out⟩⟩
       ·have hno:=(show Hid (¬ leans l t) from fun h=>by
         rcases h with h | h
         ·exact hA h
         ·exact hB h)
        have HL4:=(show Hid (∀ q t,M.at q = some t→(L q && !decide (q = x)) = false→q ∈ l∨¬ leans l t) from fun q u hq hLq=>by
         by_cases e:q = x
         ·subst e
          rw [Ht.out] at hq
          cases hq
          exact .inr hno.out
         ·exact HL.out q u hq (by simpa [e] using hLq))
        have hheld:=(show Hid (∀ W,Calls Tryz.prog 166 #[.agg (thc t)] W fun e w'=>e = .returned (.slice none 0 0)∧Below W.heap.size W w') from fun W=>by
         obtain ⟨k,h,vk,vn,n,lo,tg,bi,s,fu,rfl,hp⟩:=light.out x t Ht.out
         exact held_W W k h vk vn n lo tg bi s fu hp)
        have ds:Hid (∀ w',Below w4.heap.size w4 w'→w'.cell? ⟨w.heap.size + 1,0,none⟩ = some (.map (some w.heap.size))∧w'.cell? ⟨bl x,0,none⟩ = some (.int .u8 t.kind)∧w'.cell? ⟨bl x,10,none⟩ = some (.int .i64 t.tgt)∧w'.cell? ⟨bl x,11,none⟩ = some (.int .i64 t.bi) ∧
         (Instr.lookup 256 (.map (some w.heap.size)) (.int .i64 t.tgt) false).run Tryz.prog w' = .ok (.int .i64 (if t.tgt ∈ l then 1 else 0)) w'∧(Instr.lookup 256 (.map (some w.heap.size)) (.int .i64 t.bi) false).run Tryz.prog w' = .ok (.int .i64 0) w' ∧
         (ldW (.pointer (some ⟨bl x,0,none⟩))).run Tryz.prog w' = .ok (.value (.agg (thc t))) w'∧Below w4.heap.size w4 w'):=fun w' hb=>by
         have hG':=HG4.out.below hb
         have hbl:=(HV.out.below hG'.b).blk x t Ht.out
         obtain ⟨q0,-,-,-,q6,q7,-,-⟩:=thc_cell hbl.1
         have hwf3:=HV.out.ok.wf x t Ht.out
         have l6:=hG'.look hwf3.tgt
         have l7:=hG'.look hwf3.bi
         rw [if_neg hB] at l7
         exact ⟨by rw [cell_blk hG'.cell];rfl,q0,q6,q7,l6,l7,loadWhat_blk hbl.1 rfl,hb⟩
        have h7:=hl7.out
        rw [if_neg hB] at h7
        have h6:=hl6.out
        by_cases h13:t.kind = 13
        ·have k13:(t.kind != 13) = false:=by simpa using h13
         clear hA hB h13 h6
         go_wp2_with fail
         refine region_class (C:=fun w'=>Below w4.heap.size w4 w') (by kernel_rfl) (by kernel_rfl) ⟨rfl,rfl,rfl,Nat.le_refl _,fun _ _=>rfl⟩ ?_
         repeat (first
          | go_big_quiet_step (fail)
          | quiet_step (fail)
          | (refine wpQuiet_step (fun K hK=>?_);go_simp;first
           | (refine hK _ ?_;clear hK K)
           | (apply Exists.intro
              refine ⟨fun w' hC=>?_,hK _ ?_⟩
              ·obtain ⟨q1,q2,q3,q4,q5,q6,q7,q8⟩:=ds.out w' hC
               first
                | exact rfl
                | (go_simp;exact rfl)
                | (go_simp;exact ⟨rfl,rfl⟩)
                | exact (hheld.out w').mono fun e w'' ⟨he,hb⟩=>⟨he,hC.trans (hb.mono hC.size)⟩
                | exact (containsRef_W w' _).mono fun e w'' ⟨he,hw⟩=>⟨he,hw ▸ hC⟩
                | (go_simp;exact (hheld.out w').mono fun e w'' ⟨he,hb⟩=>⟨he,hC.trans (hb.mono hC.size)⟩)
              clear hK K)))
         refine wpQuiet_nil ?_
         intro w5 hC5
         have HG5:=(show Hid (GI w w5 l) from HG4.out.below hC5)
         have Hrg5:=(show Hid _ from Rg.below Hrg4.out hC5)
         clear hC5
         go_wp2_with fail
         go_roundw
         case rel=>exact ⟨_,_,Hrg5,HG5,HL4⟩
         case measure =>
          rw [Rg.left_eq Hrg5.out,Rg.left_eq hrg.out]
          exact Hlt.out
        ·have k13:(t.kind != 13) = true:=by simpa using h13
         have ds2:Hid (∀ w',Below w4.heap.size w4 w'→(Instr.lookup 256 (.map (some w.heap.size)) (.int .i64 t.tgt) false).run Tryz.prog w' = .ok (.int .i64 0) w'):=fun w' hb=>by
          have:=(ds.out w' hb).2.2.2.2.1
          rw [if_neg (fun h=>hA ⟨h13,h⟩)] at this
          exact this
         clear hA hB h13 h6
         go_wp2_with fail
         refine region_class (C:=fun w'=>Below w4.heap.size w4 w') (by kernel_rfl) (by kernel_rfl) ⟨rfl,rfl,rfl,Nat.le_refl _,fun _ _=>rfl⟩ ?_
         repeat (first
          | go_big_quiet_step (fail)
          | quiet_step (fail)
          | (refine wpQuiet_step (fun K hK=>?_);go_simp;first
           | (refine hK _ ?_;clear hK K)
           | (apply Exists.intro
              refine ⟨fun w' hC=>?_,hK _ ?_⟩
              ·obtain ⟨q1,q2,q3,q4,-,q6,q7,q8⟩:=ds.out w' hC
               have q5:=ds2.out w' hC
               first
                | exact rfl
                | (go_simp;exact rfl)
                | (go_simp;exact ⟨rfl,rfl⟩)
                | exact (hheld.out w').mono fun e w'' ⟨he,hb⟩=>⟨he,hC.trans (hb.mono hC.size)⟩
                | exact (containsRef_W w' _).mono fun e w'' ⟨he,hw⟩=>⟨he,hw ▸ hC⟩
                | (go_simp;exact (hheld.out w').mono fun e w'' ⟨he,hb⟩=>⟨he,hC.trans (hb.mono hC.size)⟩)
              clear hK K)))
         refine wpQuiet_nil ?_
         intro w5 hC5
         have HG5:=(show Hid (GI w w5 l) from HG4.out.below hC5)
         have Hrg5:=(show Hid _ from Rg.below Hrg4.out hC5)
         clear hC5
         go_wp2_with fail
         go_roundw
         case rel=>exact ⟨_,_,Hrg5,HG5,HL4⟩
         case measure =>
          rw [Rg.left_eq Hrg5.out,Rg.left_eq hrg.out]
          exact Hlt.out
  ·intro x v w4 cnt' hx hLx hf hrg' hlt hk hsz hen
   obtain ⟨t,ht,rfl⟩:=thf_some hf
   have HG4:=(show Hid (GI w w4 l) from HG.out.keeps hk hr0)
   have Hlt:=(show Hid (cnt' < cnt) from hlt)
   have Hrg4:=(show Hid _ from hrg')
   have k0:=(thc_cell ((HV.out.below HG4.out.b).blk x t ht).1).1
   have k14:(t.kind != 14) = true:=by simpa using nofacet.out x t ht
   clear hx hLx hf hrg' hlt hk hsz ht
   go_wp2_with fail
   go_roundw
   case rel=>exact ⟨_,_,Hrg4,HG4⟩
   case measure =>
    rw [Rg.left_eq Hrg4.out,Rg.left_eq hrg.out]
    exact Hlt.out
end Go.Proofs.YthaliljaglldjaaGreat
/- Plain laws on worlds of light things with money: what the calls of PursePlays make of them. -/
namespace Go.Proofs.YthaliljaglldjaaGreat
open Go.RowKit Go.ChangeMaps Go.MapKept
variable {M:WM}
def PThing (M:WM) (t:Th):Prop :=
 (∃ k h,t = lt k h 0 0 0 0 0 0 0 false∧(k = 1∨k = 2∨k = 4∨k = 5∨k = 10∨k = 12∨k = 13)) ∨
 (∃ h n,t = lt 3 h 0 0 n 0 0 0 0 false∧0 ≤ n∧n ≤ 9007199254740992) ∨
 (∃ h n l,t = mintT h n l∧(0 ≤ l∧l ≤ n)∧n ≤ 9007199254740992) ∨
 (∃ h n m,t = purseT h n m∧(0 ≤ n∧n ≤ 9007199254740992)∧∃ u,M.at m = some u∧u.kind = 8∧u.home = h)
theorem PThing.lt {t:Th} (h:PThing M t):∃ k h n l tg,t = lt k h 0 0 n l tg 0 0 false:=by
 rcases h with ⟨k,h,e,-⟩ | ⟨h,n,e,-⟩ | ⟨h,n,l,e,-⟩ | ⟨h,n,m,e,-⟩ <;> exact ⟨_,_,_,_,_,e⟩
theorem PThing.mint {t:Th} (h:PThing M t) (hk:t.kind = 8):∃ h n l,t = mintT h n l∧(0 ≤ l∧l ≤ n)∧n ≤ 9007199254740992:=by
 rcases h with ⟨k,h,rfl,h1⟩ | ⟨h,n,rfl,-⟩ | h | ⟨h,n,m,rfl,-⟩
 ·have hk:k = 8:=hk
  omega
 ·exact absurd (show (3:Int) = 8 from hk) (by decide)
 ·exact h
 ·exact absurd (show (9:Int) = 8 from hk) (by decide)
theorem PThing.purse {t:Th} (h:PThing M t) (hk:t.kind = 9):∃ h n m,t = purseT h n m∧(0 ≤ n∧n ≤ 9007199254740992)∧∃ u,M.at m = some u∧u.kind = 8∧u.home = h:=by
 rcases h with ⟨k,h,rfl,h1⟩ | ⟨h,n,rfl,-⟩ | ⟨h,n,l,rfl,-⟩ | h
 ·have hk:k = 9:=hk
  omega
 ·exact absurd (show (3:Int) = 9 from hk) (by decide)
 ·exact absurd (show (8:Int) = 9 from hk) (by decide)
 ·exact h
theorem PThing.kinds {t:Th} (h:PThing M t):t.kind ≠ 14∧t.kind ≠ 15∧t.kind ≠ 16∧t.kind ≠ 11:=by
 rcases h with ⟨k,h,rfl,h1⟩ | ⟨h,n,rfl,-⟩ | ⟨h,n,l,rfl,-⟩ | ⟨h,n,m,rfl,-⟩
 ·show k ≠ 14∧k ≠ 15∧k ≠ 16∧k ≠ 11
  omega
 ·show (3:Int) ≠ 14∧(3:Int) ≠ 15∧(3:Int) ≠ 16∧(3:Int) ≠ 11
  decide
 ·show (8:Int) ≠ 14∧(8:Int) ≠ 15∧(8:Int) ≠ 16∧(8:Int) ≠ 11
  decide
 ·show (9:Int) ≠ 14∧(9:Int) ≠ 15∧(9:Int) ≠ 16∧(9:Int) ≠ 11
  decide
theorem PThing.tgt {t:Th} (h:PThing M t) (hk:t.kind ≠ 9):t.tgt = 0:=by
 rcases h with ⟨k,h,rfl,h1⟩ | ⟨h,n,rfl,-⟩ | ⟨h,n,l,rfl,-⟩ | ⟨h,n,m,rfl,-⟩
 ·rfl
 ·rfl
 ·rfl
 ·exact absurd rfl hk
theorem PThing.mono {M':WM} {t:Th} (h:PThing M t) (hm:t.kind = 9→∀ u,M.at t.tgt = some u→u.kind = 8→∃ u',M'.at t.tgt = some u'∧u'.kind = 8∧u'.home = u.home):PThing M' t:=by
 rcases h with h | h | h | ⟨h,n,m,rfl,hn,u,h1,h2,h3⟩
 ·exact .inl h
 ·exact .inr (.inl h)
 ·exact .inr (.inr (.inl h))
 ·obtain ⟨u',e1,e2,e3⟩:=hm rfl u h1 h2
  exact .inr (.inr (.inr ⟨h,n,m,rfl,hn,u',e1,e2,e3.trans h3⟩))
structure PP (M:WM):Prop where
 ok:M.ok
 things:∀ x ∈ M.things,PThing M x.2
 made:M.made.length = 3
 cuts:∀ x ∈ M.cuts,x = false
theorem PP.at (h:PP M) {r:Int} {t:Th} (ht:M.at r = some t):PThing M t:=h.things _ (at_mem ht)
theorem PP.ltM (h:PP M):LtM M:=fun x hx=>(h.things x hx).lt
theorem PP.qok (h:PP M) (hl:M.last ≤ 100000):QOk M:=⟨h.ok,h.ltM,hl⟩
theorem PP.sum (h:PP M):SumOk M:=⟨fun x hx=>h.ok.at_of_mem hx,fun x hx hk=>by
 obtain ⟨hh,n,m,e,hn,-⟩:=(h.things x hx).purse hk
 rw [e]
 exact hn⟩
theorem PP.light (h:PP M):∀ r t,M.at r = some t→Light t:=fun r t ht=>by
 obtain ⟨k,hh,n,l,tg,e⟩:=(h.at ht).lt
 exact ⟨_,_,_,_,_,_,_,_,_,_,e,plain0⟩
theorem PP.nofacet (h:PP M):∀ r t,M.at r = some t→t.kind ≠ 14:=fun _ _ ht=>(h.at ht).kinds.1
theorem PP.purses (h:PP M):∀ x ∈ M.things,x.2.kind = 9→∃ h n m,x.2 = purseT h n m∧0 ≤ n:=fun x hx hk=>by
 obtain ⟨hh,n,m,e,hn,-⟩:=(h.things x hx).purse hk
 exact ⟨_,_,_,e,hn.1⟩
theorem PP.mints (h:PP M):∀ x ∈ M.things,x.2.kind = 8→∃ h N lo,x.2 = mintT h N lo∧0 ≤ lo∧lo ≤ N∧N ≤ 9007199254740992:=fun x hx hk=>by
 obtain ⟨hh,n,l,e,h1,h2⟩:=(h.things x hx).mint hk
 exact ⟨_,_,_,e,h1.1,h1.2,h2⟩
theorem PP.mlost (h:PP M):∀ x ∈ M.things,x.2.kind = 8→0 ≤ x.2.lost∧x.2.lost ≤ 9007199254740992:=fun x hx hk=>by
 obtain ⟨hh,n,l,e,h1,h2⟩:=(h.things x hx).mint hk
 rw [e]
 show 0 ≤ l∧l ≤ 9007199254740992
 omega
theorem PP.home (h:PP M) {r:Int} {t:Th} (ht:M.at r = some t):0 ≤ t.home∧t.home < M.made.length:=h.ok.homes r t ht (h.at ht).kinds.1
theorem PP.add (h:PP M) {t:Th} (a:AddOk M t) (ht:PThing M t):PP (M.add t) where
 ok:=WM.add_ok h.ok a
 things:=fun x hx=>by
  have up:∀ u,PThing M u→PThing (M.add t) u:=fun u hu=>hu.mono fun _ v hv hk=>⟨v,WM.add_at_old h.ok t hv,hk,rfl⟩
  rcases List.mem_append.1 (show x ∈ M.things ++ [(M.last + 1,t)] from hx) with hx | hx
  ·exact up _ (h.things x hx)
  ·rw [List.mem_singleton.1 hx]
   exact up t ht
 made:=by rw [(WM.add_ok h.ok a).made,← h.made,h.ok.made];rfl
 cuts:=h.cuts
theorem PThing.set {r:Int} {u t:Th} (hs:SetOk M r u t) {x:Th} (hx:PThing M x):PThing (M.set r t) x:=hx.mono fun _ v hv hk=>by
 by_cases e:x.tgt = r
 ·rw [e,hs.was] at hv
  cases hv
  rw [e]
  exact ⟨t,WM.set_at_self t hs.was,by rw [hs.kind,hk],hs.home⟩
 ·exact ⟨v,by rw [WM.set_at_ne M t e];exact hv,hk,rfl⟩
theorem PP.set (h:PP M) {r:Int} {u t:Th} (hs:SetOk M r u t) (ht:PThing M t):PP (M.set r t) where
 ok:=WM.set_ok h.ok hs
 things:=fun x hx=>by
  obtain ⟨y,hy,e⟩:=List.mem_map.1 (show x ∈ M.things.map _ from hx)
  rw [← e]
  split
  ·exact ht.set hs
  ·exact (h.things y hy).set hs
 made:=h.made
 cuts:=h.cuts
theorem PP.delL (h:PP M) {l:List Int} (hl:¬ Lean' M l):PP (M.delL l) where
 ok:=WM.delL_ok h.ok hl
 things:=fun x hx=>by
  obtain ⟨h1,h2⟩:=List.mem_filter.1 (show x ∈ M.things.filter _ from hx)
  have hn:x.1 ∉ l:=by simpa using h2
  refine (h.things x h1).mono fun hk v hv hk8=>⟨v,?_,hk8,rfl⟩
  rw [WM.delL_at,if_neg fun hm=>hl ⟨x.1,x.2,h.ok.at_of_mem h1,hn,.inl ⟨by rw [hk];decide,hm⟩⟩]
  exact hv
 made:=h.made
 cuts:=h.cuts
theorem PP.gone1 (h:PP M) (l:List Int) (r:Int):PP (M.gone1 l r):=by
 unfold WM.gone1
 split
 ·rename_i t ht
  split
  ·rename_i hk
   split
   ·exact h
   ·split
    ·rename_i m hm
     obtain ⟨hh,n,mi,rfl,hn,u,hu,hu8,hu1⟩:=(h.at ht).purse hk
     have hm':M.at mi = some m:=hm
     rw [hm'] at hu
     cases hu
     obtain ⟨hh',N,lo,rfl,hlo,hN⟩:=(h.at hm').mint hu8
     have e:wrap64 (lo + n) = lo + n:=by unfold wrap64;omega
     refine h.set ⟨hm',rfl,rfl,fun _=>rfl,rfl,rfl,rfl⟩ (.inr (.inr (.inl ⟨hh',N,min N (wrap64 (lo + n)),rfl,?_,hN⟩)))
     rw [e]
     omega
    ·exact h
  ·split
   ·rename_i h15
    exact absurd h15 (h.at ht).kinds.2.1
   ·exact h
 ·exact h
def lostOf (L:List (Int × Th)) (gs:List Int) (r n lo:Int):Int:=L.foldl (fun lo p=>if gs.contains p.1 && p.2.kind == 9 && p.2.tgt == r then min (lo + p.2.n) n else lo) lo
def stayT (M:WM) (gs:List Int) (x:Int × Th):Th :=
 { x.2 with tgt:=if x.2.kind == 13 && gs.contains x.2.tgt then 0 else x.2.tgt,lost:=if x.2.kind == 8 then lostOf M.things gs x.1 x.2.n x.2.lost else x.2.lost }
def dropM (M:WM) (gs:List Int):WM:={ M with things:=(M.things.filter fun x=>!(gs.contains x.1)).map fun x=>(x.1,stayT M gs x) }
theorem fold_no {α β:Type} (f:β→α→β):∀ (L:List α) (b:β),(∀ y ∈ L,∀ b,f b y = b)→L.foldl f b = b
 | [],b,_=>rfl
 | y :: L,b,h=>by
   rw [List.foldl_cons,h y (List.mem_cons_self ..)]
   exact fold_no f L b fun z hz=>h z (List.mem_cons_of_mem _ hz)
theorem fold_one {α β:Type} (f:β→α→β):∀ (L:List α) (x:α) (b:β),L.Nodup→x ∈ L→(∀ y ∈ L,y ≠ x→∀ b,f b y = b)→L.foldl f b = f b x
 | [],x,b,_,hx,_=>by cases hx
 | y :: L,x,b,hn,hx,hf=>by
   obtain ⟨hy,hnd⟩:=List.nodup_cons.1 hn
   rw [List.foldl_cons]
   rcases List.mem_cons.1 hx with e | h
   ·subst e
    exact fold_no f L _ fun z hz=>hf z (List.mem_cons_of_mem _ hz) fun e=>hy (e ▸ hz)
   ·rw [hf y (List.mem_cons_self ..) (fun e=>hy (e ▸ h))]
    exact fold_one f L x b hnd h fun z hz=>hf z (List.mem_cons_of_mem _ hz)
theorem WM.ok.nodup (h:M.ok):M.things.Nodup:=h.keys.imp fun hxy e=>by subst e;omega
theorem WM.ok.uniq (h:M.ok) {x y:Int × Th} (hx:x ∈ M.things) (hy:y ∈ M.things) (e:x.1 = y.1):x = y:=by
 have h1:=h.at_of_mem hx
 have h2:=h.at_of_mem hy
 rw [e,h2] at h1
 obtain ⟨x1,x2⟩:=x
 obtain ⟨y1,y2⟩:=y
 cases h1
 cases e
 rfl
theorem stay_tgt (h:PP M) {r:Int} {x:Int × Th} (hx:x ∈ M.things):(if x.2.kind == 13 && [r].contains x.2.tgt then 0 else x.2.tgt) = x.2.tgt:=by
 split
 ·rename_i hc
  have hc':=(Bool.and_eq_true_iff).1 hc
  have h13:x.2.kind = 13:=by simpa using hc'.1
  exact ((h.things x hx).tgt (by omega)).symm
 ·rfl
theorem stay_same (h:PP M) {r:Int} (_hr:r ≠ 0) {x:Int × Th} (hx:x ∈ M.things) (hno:∀ y ∈ M.things,y.1 = r→¬ (y.2.kind = 9∧y.2.tgt = x.1)):stayT M [r] x = x.2:=by
 unfold stayT
 rw [stay_tgt h hx]
 have:lostOf M.things [r] x.1 x.2.n x.2.lost = x.2.lost:=fold_no _ _ _ fun y hy b=>by
  by_cases e:y.1 = r
  ·have:=hno y hy e
   by_cases e9:y.2.kind = 9
   ·have:y.2.tgt ≠ x.1:=fun e'=>this ⟨e9,e'⟩
    simp [this]
   ·simp [e9]
  ·simp [e]
 rw [this]
 split <;> rfl
theorem PP.drop_eq (h:PP M) {r:Int} {t:Th} (ht:M.at r = some t):(M.gone1 [r] r).delL [r] = dropM M [r]:=by
 have hr:r ≠ 0:=by have:=h.ok.at_range ht;omega
 have hc:(fun x:Int × Th=>!([r].contains x.1)) = fun x=>decide (x.1 ∉ [r]):=by funext x;by_cases e:x.1 = r <;> simp [e]
 have hut:∀ y ∈ M.things,y.1 = r→y.2 = t:=fun y hy e=>by
  have:=h.ok.at_of_mem hy
  rw [e,ht] at this
  cases this
  rfl
 by_cases h9:t.kind = 9
 ·obtain ⟨hh,n,mi,rfl,hn,u,hu,hu8,hu1⟩:=(h.at ht).purse h9
  obtain ⟨hh',N,lo,rfl,hlo,hN⟩:=(h.at hu).mint hu8
  have hne:mi ≠ r:=fun e=>by subst e;rw [ht] at hu;cases hu
  have hw:wrap64 (lo + n) = lo + n:=by unfold wrap64;omega
  have e1:M.gone1 [r] r = M.set mi (mintT hh' N (min N (lo + n))):=by
   unfold WM.gone1
   rw [ht]
   simp only [hu,hw]
   simp [hne]
  rw [e1]
  show WM.mk _ _ ((M.things.map _).filter _) _ _ = WM.mk _ _ _ _ _
  rw [hc,List.filter_map]
  have e2:((fun x:Int × Th=>decide (x.1 ∉ [r])) ∘ fun x:Int × Th=>if x.1 = mi then (x.1,mintT hh' N (min N (lo + n))) else x) = fun x=>decide (x.1 ∉ [r]):=by
   funext x
   simp only [Function.comp]
   split <;> rfl
  rw [e2]
  congr 1
  refine List.map_congr_left fun x hx=>?_
  obtain ⟨hx1,hx2⟩:=List.mem_filter.1 hx
  have hxt:=h.ok.at_of_mem hx1
  by_cases e:x.1 = mi
  ·rw [if_pos e]
   have e3:x.2 = mintT hh' N lo:=by rw [e,hu] at hxt;injection hxt with hxt;exact hxt.symm
   have:lostOf M.things [r] x.1 N lo = min (lo + n) N:=by
    have:=fold_one (fun (lo:Int) (p:Int × Th)=>if [r].contains p.1 && p.2.kind == 9 && p.2.tgt == x.1 then min (lo + p.2.n) N else lo) M.things (r,purseT hh n mi) lo h.ok.nodup (at_mem ht) fun y hy hne b=>by
     by_cases e':y.1 = r
     ·exact absurd (h.ok.uniq hy (at_mem ht) e') hne
     ·simp [e']
    unfold lostOf
    rw [this]
    simp [e]
   have:stayT M [r] x = mintT hh' N (min (lo + n) N):=by
    unfold stayT
    rw [stay_tgt h hx1]
    rw [e3]
    simp [this]
   rw [this,Int.min_comm]
  ·rw [if_neg e,stay_same h hr hx1 fun y hy ey hk=>?_]
   rw [hut y hy ey] at hk
   exact e hk.2.symm
 ·have e1:M.gone1 [r] r = M:=by
   unfold WM.gone1
   rw [ht]
   have h15:=(h.at ht).kinds.2.1
   simp [h9,h15]
  rw [e1]
  show WM.mk _ _ (M.things.filter _) _ _ = WM.mk _ _ _ _ _
  rw [hc]
  congr 1
  refine (List.map_id _).symm.trans (List.map_congr_left fun x hx=>?_)
  rw [stay_same h hr (List.mem_filter.1 hx).1 fun y hy ey hk=>?_]
  ·rfl
  ·rw [hut y hy ey] at hk
   exact h9 hk.1
theorem PP.drop (h:PP M) {r:Int} {t:Th} (ht:M.at r = some t) (hl:¬ Lean' M [r]):PP (dropM M [r]):=by
 rw [← h.drop_eq ht]
 exact (h.gone1 [r] r).delL (WM.gone1_lean h.ok hl)
end Go.Proofs.YthaliljaglldjaaGreat
