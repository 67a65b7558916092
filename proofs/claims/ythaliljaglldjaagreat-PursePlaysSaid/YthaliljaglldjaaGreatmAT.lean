/- A part of the proof, several texts in one: QtA, PpA, QtH. -/
import Derived.Test.YthaliljaglldjaaGreatmAN
import Derived.Test.YthaliljaglldjaaGreatmAL
import Derived.Test.YthaliljaglldjaaGreatmAS
import Derived.Test.YthaliljaglldjaaGreatmAP
/- posternref10's kind, purse, Get, Of. -/
namespace Go.Proofs.YthaliljaglldjaaGreat
open Go.RowKit Go.ChangeMaps Go.MapKept
variable {w:World} {q:Nat} {M:WM} {G:Nat→Prop}
def kindE (M:WM) (r:Int):Int:=if (M.at r).isSome then 0 else 5
def purseE (M:WM) (r:Int):Int:=if (M.at r).isSome then (if (at7 M r).kind = 9 then 0 else 100) else 5
set_option maxHeartbeats 2000000 in
set_option maxRecDepth 8000 in
theorem kindq_W (hR:IsR w q M G) (hN:ROk M) (r:Int):Calls Tryz.prog 193 #[.pointer (some ⟨q,0,none⟩),.int .i64 r] w fun e w'=>e = .returned (.tuple #[.agg (thc (at7 M r)),.int .i64 (kindE M r)])∧Below w.heap.size w w':=by
 have HA:Hid (∀ w',Below w.heap.size w w'→Calls Tryz.prog 47 #[.pointer (some ⟨q,0,none⟩),.int .i64 r] w' fun e w''=>e = .returned (.tuple #[.agg (thc (at7 M r)),.bool (M.at r).isSome])∧Below w'.heap.size w' w''):=fun w' hb=>at7_W (hR.below hb) hN.len r fun y hy=>(hN.cell y hy).1
 have hone:=hN.one r
 unfold kindE
 clear hR hN
 generalize at7 M r = t at *
 generalize (M.at r).isSome = B at *
 have H0:Hid (Below w.heap.size w (w.alloc (.cells #[.int .u8 0,.int .i64 0,.int .u8 0,.int .i64 0,.string ⟨#[]⟩,.slice none 0 0,.int .i64 0,.slice none 0 0,.int .i64 0,.int .i64 0,.int .i64 0,.int .i64 0,.int .u8 0,.bool false,.slice none 0 0,.slice none 0 0] 46))∧∃ c:Array Value,c.size = 16∧(w.alloc (.cells #[.int .u8 0,.int .i64 0,.int .u8 0,.int .i64 0,.string ⟨#[]⟩,.slice none 0 0,.int .i64 0,.slice none 0 0,.int .i64 0,.int .i64 0,.int .i64 0,.int .i64 0,.int .u8 0,.bool false,.slice none 0 0,.slice none 0 0] 46)).heap[w.heap.size]? = some (.cells c 46 (0,0))):=⟨(Below.refl _ w).alloc (Nat.le_refl _) _,_,rfl,blk_new _ _⟩
 go_enter Tryz.func193,Tryz.ntmps193
 go_upto_region 1 with fail
 revert H0
 generalize w.alloc _ = w1
 intro H0
 go_wp2_with fail
 refine Calls.mono (HA.out w1 H0.out.1) ?_
 rintro e w2 ⟨rfl,hb2⟩
 obtain ⟨w3,hst,hb3,hg3,-⟩:=boxed_what' w2 (thc t) rfl hone
 have H3:Hid (Below w.heap.size w w3∧∃ c:Array Value,c.size = 16∧w3.heap[w.heap.size]? = some (.cells c 46 (0,0))):=by
  obtain ⟨h0,c,hc,hg⟩:=H0.out
  exact ⟨h0.trans ((hb2.trans (hb3.mono hb2.size)).mono h0.size),c,hc,below_blk hb3 (below_blk hb2 hg)⟩
 have l3:=loadWhat_blk hg3 rfl
 obtain ⟨c,hc,hg⟩:=H3.out.2
 have hst2:=storeWhat_blk hg hc rfl hone
 have HF:=(show Hid ((w3.setRow w.heap.size (thc t)).heap[w.heap.size]? = some (.cells (thc t) 46 (0,0))∧Below w.heap.size w (w3.setRow w.heap.size (thc t))) from ⟨heap_setRow_at hg,Below.setRow H3.out.1 (Nat.le_refl _) _⟩)
 clear hb2 hb3 hg3 hg hc H0 HA H3
 cases B
 ·go_wp2_with fail
  exact bodyPost_ret (results_What2 rfl _ _ _ _ _ rfl HF.out.1 rfl) rfl ⟨rfl,HF.out.2⟩
 ·go_wp2_with fail
  exact bodyPost_ret (results_What2 rfl _ _ _ _ _ rfl HF.out.1 rfl) rfl ⟨rfl,HF.out.2⟩
set_option maxHeartbeats 2000000 in
set_option maxRecDepth 8000 in
theorem purseq_W (hR:IsR w q M G) (hN:ROk M) (r:Int):Calls Tryz.prog 194 #[.pointer (some ⟨q,0,none⟩),.int .i64 r] w fun e w'=>e = .returned (.tuple #[.agg (thc (at7 M r)),.int .i64 (purseE M r)])∧Below w.heap.size w w':=by
 have HA:Hid (∀ w',Below w.heap.size w w'→Calls Tryz.prog 193 #[.pointer (some ⟨q,0,none⟩),.int .i64 r] w' fun e w''=>e = .returned (.tuple #[.agg (thc (at7 M r)),.int .i64 (kindE M r)])∧Below w'.heap.size w' w''):=fun w' hb=>kindq_W (hR.below hb) hN r
 have hone:=hN.one r
 obtain ⟨E,hE⟩:∃ E,E = purseE M r:=⟨_,rfl⟩
 rw [← hE]
 unfold purseE at hE
 have HE:=(show Hid _ from hE)
 clear hE
 unfold kindE at HA
 clear hR hN
 generalize at7 M r = t at *
 generalize (M.at r).isSome = B at *
 have H0:Hid (Below w.heap.size w (w.alloc (.cells #[.int .u8 0,.int .i64 0,.int .u8 0,.int .i64 0,.string ⟨#[]⟩,.slice none 0 0,.int .i64 0,.slice none 0 0,.int .i64 0,.int .i64 0,.int .i64 0,.int .i64 0,.int .u8 0,.bool false,.slice none 0 0,.slice none 0 0] 46))∧∃ c:Array Value,c.size = 16∧(w.alloc (.cells #[.int .u8 0,.int .i64 0,.int .u8 0,.int .i64 0,.string ⟨#[]⟩,.slice none 0 0,.int .i64 0,.slice none 0 0,.int .i64 0,.int .i64 0,.int .i64 0,.int .i64 0,.int .u8 0,.bool false,.slice none 0 0,.slice none 0 0] 46)).heap[w.heap.size]? = some (.cells c 46 (0,0))):=⟨(Below.refl _ w).alloc (Nat.le_refl _) _,_,rfl,blk_new _ _⟩
 go_enter Tryz.func194,Tryz.ntmps194
 go_upto_region 1 with fail
 revert H0
 generalize w.alloc _ = w1
 intro H0
 go_wp2_with fail
 refine Calls.mono (HA.out w1 H0.out.1) ?_
 rintro e w2 ⟨rfl,hb2⟩
 obtain ⟨w3,hst,hb3,hg3,-⟩:=boxed_what' w2 (thc t) rfl hone
 have H3:Hid (Below w.heap.size w w3∧∃ c:Array Value,c.size = 16∧w3.heap[w.heap.size]? = some (.cells c 46 (0,0))):=by
  obtain ⟨h0,c,hc,hg⟩:=H0.out
  exact ⟨h0.trans ((hb2.trans (hb3.mono hb2.size)).mono h0.size),c,hc,below_blk hb3 (below_blk hb2 hg)⟩
 have l3:=loadWhat_blk hg3 rfl
 have k0:w3.cell? ⟨w2.heap.size,0,none⟩ = some (.int .u8 t.kind):=by rw [cell_blk hg3];rfl
 obtain ⟨c,hc,hg⟩:=H3.out.2
 have hst2:=storeWhat_blk hg hc rfl hone
 have HF:=(show Hid ((w3.setRow w.heap.size (thc t)).heap[w.heap.size]? = some (.cells (thc t) 46 (0,0))∧Below w.heap.size w (w3.setRow w.heap.size (thc t))) from ⟨heap_setRow_at hg,Below.setRow H3.out.1 (Nat.le_refl _) _⟩)
 clear hb2 hb3 hg3 hg hc H0 HA H3
 cases B
 ·have HE2:Hid (E = 5):=HE.out
  clear HE
  go_wp2_with fail
  exact bodyPost_ret (results_What2 rfl _ _ _ _ _ rfl HF.out.1 rfl) rfl ⟨by rw [HE2.out];rfl,HF.out.2⟩
 ·by_cases hk:t.kind = 9
  ·have hb:(t.kind != 9) = false:=by simpa using hk
   have HE2:Hid (E = 0):=HE.out.trans (by rw [if_pos rfl,if_pos hk])
   clear HE hk
   go_wp2_with fail
   exact bodyPost_ret (results_What2 rfl _ _ _ _ _ rfl HF.out.1 rfl) rfl ⟨by rw [HE2.out];rfl,HF.out.2⟩
  ·have hb:(t.kind != 9) = true:=by simpa using hk
   have HE2:Hid (E = 100):=HE.out.trans (by rw [if_pos rfl,if_neg hk])
   clear HE hk
   go_wp2_with fail
   exact bodyPost_ret (results_What2 rfl _ _ _ _ _ rfl HF.out.1 rfl) rfl ⟨by rw [HE2.out];rfl,HF.out.2⟩
def getA (M:WM) (r:Int):Int:=if purseE M r = 0 then (at7 M r).n else 0
set_option maxHeartbeats 2000000 in
set_option maxRecDepth 8000 in
theorem getq_W (hR:IsR w q M G) (hN:ROk M) (r:Int):Calls Tryz.prog 197 #[.pointer (some ⟨q,0,none⟩),.int .i64 r] w fun e w'=>e = .returned (.tuple #[.int .i64 (getA M r),.int .i64 (purseE M r)])∧Below w.heap.size w w':=by
 have HA:=(show Hid _ from purseq_W hR hN r)
 have hone:=hN.one r
 obtain ⟨A,hA⟩:∃ A,A = getA M r:=⟨_,rfl⟩
 rw [← hA]
 unfold getA at hA
 have HE:=(show Hid _ from hA)
 clear hA
 clear hR hN
 generalize at7 M r = t at *
 generalize purseE M r = B at *
 go_enter Tryz.func197,Tryz.ntmps197
 go_wp2_with fail
 refine Calls.mono HA.out ?_
 rintro e w2 ⟨rfl,hb2⟩
 obtain ⟨w3,hst,hb3,hg3,-⟩:=boxed_what' w2 (thc t) rfl hone
 have k8:w3.cell? ⟨w2.heap.size,8,none⟩ = some (.int .i64 t.n):=by rw [cell_blk hg3];rfl
 have H3:Hid (Below w.heap.size w w3):=hb2.trans (hb3.mono hb2.size)
 clear hb2 hb3 hg3 HA
 by_cases hB:B = 0
 ·subst hB
  have HE2:Hid (A = t.n):=HE.out.trans (if_pos rfl)
  clear HE
  go_wp2_with fail
  go_returns
  exact ⟨by rw [HE2.out];rfl,H3.out⟩
 ·have hb:(B != 0) = true:=by simpa using hB
  have HE2:Hid (A = 0):=HE.out.trans (if_neg hB)
  clear hB HE
  go_wp2_with fail
  go_returns
  exact ⟨by rw [HE2.out];rfl,H3.out⟩
def ofA (M:WM) (r:Int):Int:=if (M.at r).isSome then (if (at7 M r).kind = 8 then r else if (at7 M r).kind = 9 then (at7 M r).tgt else 0) else 0
def ofErr (M:WM) (r:Int):Int:=if (M.at r).isSome then (if (at7 M r).kind = 8 then 0 else if (at7 M r).kind = 9 then 0 else 100) else 5
set_option maxHeartbeats 2000000 in
set_option maxRecDepth 8000 in
theorem ofq_W (hR:IsR w q M G) (hN:ROk M) (r:Int):Calls Tryz.prog 199 #[.pointer (some ⟨q,0,none⟩),.int .i64 r] w fun e w'=>e = .returned (.tuple #[.int .i64 (ofA M r),.int .i64 (ofErr M r)])∧Below w.heap.size w w':=by
 have HA:=(show Hid _ from kindq_W hR hN r)
 have hone:=hN.one r
 obtain ⟨A,hA⟩:∃ A,A = ofA M r:=⟨_,rfl⟩
 obtain ⟨E,hE⟩:∃ E,E = ofErr M r:=⟨_,rfl⟩
 rw [← hA,← hE]
 unfold ofA at hA
 unfold ofErr at hE
 have HE:=(show Hid (_∧_) from ⟨hA,hE⟩)
 clear hA hE
 unfold kindE at HA
 clear hR hN
 generalize at7 M r = t at *
 generalize (M.at r).isSome = B at *
 go_enter Tryz.func199,Tryz.ntmps199
 go_wp2_with fail
 refine Calls.mono HA.out ?_
 rintro e w2 ⟨rfl,hb2⟩
 obtain ⟨w3,hst,hb3,hg3,-⟩:=boxed_what' w2 (thc t) rfl hone
 have k0:w3.cell? ⟨w2.heap.size,0,none⟩ = some (.int .u8 t.kind):=by rw [cell_blk hg3];rfl
 have k10:w3.cell? ⟨w2.heap.size,10,none⟩ = some (.int .i64 t.tgt):=by rw [cell_blk hg3];rfl
 have H3:Hid (Below w.heap.size w w3):=hb2.trans (hb3.mono hb2.size)
 clear hb2 hb3 hg3 HA
 cases B
 ·have HE2:Hid (A = 0∧E = 5):=HE.out
  clear HE
  go_wp2_with fail
  go_returns
  exact ⟨by rw [HE2.out.1,HE2.out.2];rfl,H3.out⟩
 ·by_cases h8:t.kind = 8
  ·have hb:(t.kind == 8) = true:=by simpa using h8
   have HE2:Hid (A = r∧E = 0):=⟨HE.out.1.trans (by rw [if_pos rfl,if_pos h8]),HE.out.2.trans (by rw [if_pos rfl,if_pos h8])⟩
   clear h8 HE
   go_wp2_with fail
   go_returns
   exact ⟨by rw [HE2.out.1,HE2.out.2];rfl,H3.out⟩
  ·have hb:(t.kind == 8) = false:=by simpa using h8
   by_cases h9:t.kind = 9
   ·have hb9:(t.kind == 9) = true:=by simpa using h9
    have HE2:Hid (A = t.tgt∧E = 0):=⟨HE.out.1.trans (by rw [if_pos rfl,if_neg h8,if_pos h9]),HE.out.2.trans (by rw [if_pos rfl,if_neg h8,if_pos h9])⟩
    clear h8 h9 HE
    go_wp2_with fail
    go_returns
    exact ⟨by rw [HE2.out.1,HE2.out.2];rfl,H3.out⟩
   ·have hb9:(t.kind == 9) = false:=by simpa using h9
    have HE2:Hid (A = 0∧E = 100):=⟨HE.out.1.trans (by rw [if_pos rfl,if_neg h8,if_neg h9]),HE.out.2.trans (by rw [if_pos rfl,if_neg h8,if_neg h9])⟩
    clear h8 h9 HE
    go_wp2_with fail
    go_returns
    exact ⟨by rw [HE2.out.1,HE2.out.2];rfl,H3.out⟩
end Go.Proofs.YthaliljaglldjaaGreat
/- The program's purse functions at any number: what find answers, and what is refused. -/
namespace Go.Proofs.YthaliljaglldjaaGreat
open Go.RowKit Go.ChangeMaps Go.MapKept
variable {w:World} {p:Nat} {M:WM} {F:Nat→Prop}
def LtM (M:WM):Prop:=∀ x ∈ M.things,∃ k h n l tg,x.2 = lt k h 0 0 n l tg 0 0 false
theorem LtM.at {M:WM} (h:LtM M) (r:Int):(M.at r = none∧at7 M r = lt 0 0 0 0 0 0 0 0 0 false)∨∃ k h n l tg,M.at r = some (lt k h 0 0 n l tg 0 0 false)∧at7 M r = lt k h 0 0 n l tg 0 0 false:=by
 unfold at7
 cases e:M.at r with
 | none=>exact .inl ⟨rfl,rfl⟩
 | some t =>
   obtain ⟨k,hh,n,l,tg,rfl⟩:=h _ (at_mem e)
   exact .inr ⟨k,hh,n,l,tg,rfl,rfl⟩
set_option maxHeartbeats 1000000 in
set_option maxRecDepth 8000 in
theorem What_0 (hW:IsW w p M F) {r:Int} (hr:(Lit.int .i64 r).wf = true) (ht:M.at r = none) :
 Calls Tryz.prog 137 #[.pointer (some ⟨p,0,none⟩),.int .i64 r] w fun e w'=>e = .returned (.tuple #[.agg #[.int .u8 0,.int .i64 0,.int .u8 0,.int .i64 0,.string ⟨#[]⟩,.slice none 0 0,.int .i64 0,.slice none 0 0,.int .i64 0,.int .i64 0,.int .i64 0,.int .i64 0,.int .u8 0,.bool false,.slice none 0 0,.slice none 0 0],.int .i64 5])∧Below w.heap.size w w':=by
 have HW:Hid (IsW w p M F):=hW
 have HIs:Hid ((M.at r).isSome = false):=by show _ = _;rw [ht];rfl
 clear hW ht
 go_enter Tryz.func137,Tryz.ntmps137
 go_wp2_with fail
 refine (none_W (HW.out.below ((Below.refl _ _).alloc (Nat.le_refl _) _))).mono ?_
 rintro e _ ⟨rfl,rfl⟩
 go_wp2_with fail
 refine (Is_W (HW.out.below ((Below.refl _ _).alloc (Nat.le_refl _) _)) hr).mono ?_
 rw [HIs.out]
 rintro e _ ⟨rfl,rfl⟩
 have B1:=blk_new w (.cells #[.int .u8 0,.int .i64 0,.int .u8 0,.int .i64 0,.string ⟨#[]⟩,.slice none 0 0,.int .i64 0,.slice none 0 0,.int .i64 0,.int .i64 0,.int .i64 0,.int .i64 0,.int .u8 0,.bool false,.slice none 0 0,.slice none 0 0] 46)
 have HB1:Hid (Below w.heap.size w (w.alloc (.cells #[.int .u8 0,.int .i64 0,.int .u8 0,.int .i64 0,.string ⟨#[]⟩,.slice none 0 0,.int .i64 0,.slice none 0 0,.int .i64 0,.int .i64 0,.int .i64 0,.int .i64 0,.int .u8 0,.bool false,.slice none 0 0,.slice none 0 0] 46))):=(Below.refl _ _).alloc (Nat.le_refl _) _
 have hst:=storeWhat_blk (c':=#[.int .u8 0,.int .i64 0,.int .u8 0,.int .i64 0,.string ⟨#[]⟩,.slice none 0 0,.int .i64 0,.slice none 0 0,.int .i64 0,.int .i64 0,.int .i64 0,.int .i64 0,.int .u8 0,.bool false,.slice none 0 0,.slice none 0 0]) B1 rfl rfl (by simp [go_sem])
 have G1:=(show Hid _ from heap_setRow_at (c':=#[.int .u8 0,.int .i64 0,.int .u8 0,.int .i64 0,.string ⟨#[]⟩,.slice none 0 0,.int .i64 0,.slice none 0 0,.int .i64 0,.int .i64 0,.int .i64 0,.int .i64 0,.int .u8 0,.bool false,.slice none 0 0,.slice none 0 0]) B1)
 clear B1
 go_wp2_with fail
 exact bodyPost_ret (results_What2 rfl _ _ _ _ _ rfl G1.out rfl) rfl ⟨rfl,Below.setRow HB1.out (Nat.le_refl _) _⟩
set_option maxHeartbeats 1000000 in
set_option maxRecDepth 8000 in
theorem find_0 (hW:IsW w p M F) {r q:Int} (hr:(Lit.int .i64 r).wf = true) (ht:M.at r = none) :
 Calls Tryz.prog 191 #[.pointer (some ⟨p,0,none⟩),.int .i64 r,.int .u8 q] w fun e w'=>e = .returned (.tuple #[.agg #[.int .u8 0,.int .i64 0,.int .u8 0,.int .i64 0,.string ⟨#[]⟩,.slice none 0 0,.int .i64 0,.slice none 0 0,.int .i64 0,.int .i64 0,.int .i64 0,.int .i64 0,.int .u8 0,.bool false,.slice none 0 0,.slice none 0 0],.int .i64 5])∧Below w.heap.size w w':=by
 have HWh:Hid (∀ w',Below w.heap.size w w'→Calls Tryz.prog 137 #[.pointer (some ⟨p,0,none⟩),.int .i64 r] w' fun e w''=>e = .returned (.tuple #[.agg #[.int .u8 0,.int .i64 0,.int .u8 0,.int .i64 0,.string ⟨#[]⟩,.slice none 0 0,.int .i64 0,.slice none 0 0,.int .i64 0,.int .i64 0,.int .i64 0,.int .i64 0,.int .u8 0,.bool false,.slice none 0 0,.slice none 0 0],.int .i64 5])∧Below w'.heap.size w' w''):=fun w' hb=>What_0 (hW.below hb) hr ht
 clear hW ht
 have H0:Hid (Below w.heap.size w (w.alloc (.cells #[.int .u8 0,.int .i64 0,.int .u8 0,.int .i64 0,.string ⟨#[]⟩,.slice none 0 0,.int .i64 0,.slice none 0 0,.int .i64 0,.int .i64 0,.int .i64 0,.int .i64 0,.int .u8 0,.bool false,.slice none 0 0,.slice none 0 0] 46))∧(w.alloc (.cells #[.int .u8 0,.int .i64 0,.int .u8 0,.int .i64 0,.string ⟨#[]⟩,.slice none 0 0,.int .i64 0,.slice none 0 0,.int .i64 0,.int .i64 0,.int .i64 0,.int .i64 0,.int .u8 0,.bool false,.slice none 0 0,.slice none 0 0] 46)).heap[w.heap.size]? = some (.cells #[.int .u8 0,.int .i64 0,.int .u8 0,.int .i64 0,.string ⟨#[]⟩,.slice none 0 0,.int .i64 0,.slice none 0 0,.int .i64 0,.int .i64 0,.int .i64 0,.int .i64 0,.int .u8 0,.bool false,.slice none 0 0,.slice none 0 0] 46 (0,0))):=⟨(Below.refl _ w).alloc (Nat.le_refl _) _,blk_new _ _⟩
 go_enter Tryz.func191,Tryz.ntmps191
 go_upto_region 1 with fail
 revert H0
 generalize w.alloc _ = w1
 intro H0
 go_wp2_with fail
 refine Calls.mono (HWh.out w1 H0.out.1) ?_
 rintro e w2 ⟨rfl,hb2⟩
 obtain ⟨w3,hst,hb3,hg3,-⟩:=boxed_what' w2 #[.int .u8 0,.int .i64 0,.int .u8 0,.int .i64 0,.string ⟨#[]⟩,.slice none 0 0,.int .i64 0,.slice none 0 0,.int .i64 0,.int .i64 0,.int .i64 0,.int .i64 0,.int .u8 0,.bool false,.slice none 0 0,.slice none 0 0] rfl (by simp [go_sem])
 have H3:Hid (Below w.heap.size w w3):=H0.out.1.trans ((hb2.trans (hb3.mono hb2.size)).mono H0.out.1.size)
 have hg:=below_blk hb3 (below_blk hb2 H0.out.2)
 have hst2:=storeWhat_blk (c':=#[.int .u8 0,.int .i64 0,.int .u8 0,.int .i64 0,.string ⟨#[]⟩,.slice none 0 0,.int .i64 0,.slice none 0 0,.int .i64 0,.int .i64 0,.int .i64 0,.int .i64 0,.int .u8 0,.bool false,.slice none 0 0,.slice none 0 0]) hg rfl rfl (by simp [go_sem])
 have HF:=(show Hid ((w3.setRow w.heap.size #[.int .u8 0,.int .i64 0,.int .u8 0,.int .i64 0,.string ⟨#[]⟩,.slice none 0 0,.int .i64 0,.slice none 0 0,.int .i64 0,.int .i64 0,.int .i64 0,.int .i64 0,.int .u8 0,.bool false,.slice none 0 0,.slice none 0 0]).heap[w.heap.size]? = some (.cells #[.int .u8 0,.int .i64 0,.int .u8 0,.int .i64 0,.string ⟨#[]⟩,.slice none 0 0,.int .i64 0,.slice none 0 0,.int .i64 0,.int .i64 0,.int .i64 0,.int .i64 0,.int .u8 0,.bool false,.slice none 0 0,.slice none 0 0] 46 (0,0))∧Below w.heap.size w (w3.setRow w.heap.size #[.int .u8 0,.int .i64 0,.int .u8 0,.int .i64 0,.string ⟨#[]⟩,.slice none 0 0,.int .i64 0,.slice none 0 0,.int .i64 0,.int .i64 0,.int .i64 0,.int .i64 0,.int .u8 0,.bool false,.slice none 0 0,.slice none 0 0])) from ⟨heap_setRow_at hg,Below.setRow H3.out (Nat.le_refl _) _⟩)
 clear hb2 hb3 hg3 hg H0 HWh H3
 go_wp2_with fail
 exact bodyPost_ret (results_What2 rfl _ _ _ _ _ rfl HF.out.1 rfl) rfl ⟨rfl,HF.out.2⟩
def findE (M:WM) (q r:Int):Int:=if (M.at r).isSome then (if (at7 M r).kind = q then 0 else 100) else 5
theorem findE_9 (M:WM) (r:Int):findE M 9 r = purseE M r:=rfl
theorem find_any (hW:IsW w p M F) (hL:LtM M) {r q:Int} (hr:(Lit.int .i64 r).wf = true) (hq:q = 8∨q = 9) :
 Calls Tryz.prog 191 #[.pointer (some ⟨p,0,none⟩),.int .i64 r,.int .u8 q] w fun e w'=>e = .returned (.tuple #[.agg (thc (at7 M r)),.int .i64 (findE M q r)])∧Below w.heap.size w w':=by
 unfold findE
 rcases hL.at r with ⟨h1,h2⟩ | ⟨k,h,n,l,tg,h1,h2⟩
 ·rw [h1,h2,thc_lt]
  exact find_0 hW hr h1
 ·rw [h1,h2,thc_lt]
  exact find_lt hW hr h1 plain0 hq
theorem LtM.one {M:WM} (h:LtM M) (r:Int):(thc (at7 M r)).all (·.oneCell') = true:=by
 rcases h.at r with ⟨-,e⟩ | ⟨_,_,_,_,_,-,e⟩ <;> rw [e,thc_lt] <;> simp [go_sem]
set_option maxHeartbeats 2000000 in
set_option maxRecDepth 8000 in
theorem Get_any (hW:IsW w p M F) (hL:LtM M) {r:Int} (hr:(Lit.int .i64 r).wf = true):Calls Tryz.prog 98 #[.pointer (some ⟨p,0,none⟩),.int .i64 r] w fun e w'=>e = .returned (.tuple #[.int .i64 (getA M r),.int .i64 (purseE M r)])∧Below w.heap.size w w':=by
 have HA:=(show Hid _ from find_any hW hL (q:=9) hr (.inr rfl))
 have hone:=hL.one r
 rw [findE_9] at HA
 obtain ⟨A,hA⟩:∃ A,A = getA M r:=⟨_,rfl⟩
 rw [← hA]
 unfold getA at hA
 have HE:=(show Hid _ from hA)
 clear hA hW hL
 generalize at7 M r = t at *
 generalize purseE M r = B at *
 go_enter Tryz.func98,Tryz.ntmps98
 go_wp2_with fail
 refine Calls.mono HA.out ?_
 rintro e w2 ⟨rfl,hb2⟩
 obtain ⟨w3,hst,hb3,hg3,-⟩:=boxed_what' w2 (thc t) rfl hone
 have k8:w3.cell? ⟨w2.heap.size,8,none⟩ = some (.int .i64 t.n):=by rw [cell_blk hg3];rfl
 have H3:Hid (Below w.heap.size w w3):=hb2.trans (hb3.mono hb2.size)
 clear hb2 hb3 hg3 HA
 by_cases hB:B = 0
 ·subst hB
  have HE2:Hid (A = t.n):=HE.out.trans (if_pos rfl)
  clear HE
  go_wp2_with fail
  go_returns
  exact ⟨by rw [HE2.out];rfl,H3.out⟩
 ·have hb:(B != 0) = true:=by simpa using hB
  have HE2:Hid (A = 0):=HE.out.trans (if_neg hB)
  clear hB HE
  go_wp2_with fail
  go_returns
  exact ⟨by rw [HE2.out];rfl,H3.out⟩
set_option maxHeartbeats 2000000 in
set_option maxRecDepth 8000 in
theorem Of_any (hW:IsW w p M F) (hL:LtM M) {r:Int} (hr:(Lit.int .i64 r).wf = true):Calls Tryz.prog 198 #[.pointer (some ⟨p,0,none⟩),.int .i64 r] w fun e w'=>e = .returned (.tuple #[.int .i64 (ofA M r),.int .i64 (ofErr M r)])∧Below w.heap.size w w':=by
 have HA:=(show Hid _ from find_any hW hL (q:=8) hr (.inl rfl))
 have HP:Hid (∀ w',Below w.heap.size w w'→Calls Tryz.prog 191 #[.pointer (some ⟨p,0,none⟩),.int .i64 r,.int .u8 9] w' fun e w''=>e = .returned (.tuple #[.agg (thc (at7 M r)),.int .i64 (findE M 9 r)])∧Below w'.heap.size w' w''):=fun w' hb=>find_any (hW.below hb) hL hr (.inr rfl)
 have hone:=hL.one r
 obtain ⟨A,hA⟩:∃ A,A = ofA M r:=⟨_,rfl⟩
 obtain ⟨E,hE⟩:∃ E,E = ofErr M r:=⟨_,rfl⟩
 rw [← hA,← hE]
 unfold ofA at hA
 unfold ofErr at hE
 have HE:=(show Hid (_∧_) from ⟨hA,hE⟩)
 unfold findE at HA HP
 clear hA hE hW hL
 generalize at7 M r = t at *
 generalize (M.at r).isSome = B at *
 go_enter Tryz.func198,Tryz.ntmps198
 go_wp2_with fail
 refine Calls.mono HA.out ?_
 rintro e w2 ⟨rfl,hb2⟩
 obtain ⟨w3,hst,hb3,hg3,-⟩:=boxed_what' w2 (thc t) rfl hone
 have H3:Hid (Below w.heap.size w w3):=hb2.trans (hb3.mono hb2.size)
 clear hb2 hb3 hg3 HA
 cases B
 ·have HE2:Hid (A = 0∧E = 5):=HE.out
  clear HE
  go_wp2_with fail
  go_returns
  exact ⟨by rw [HE2.out.1,HE2.out.2];rfl,H3.out⟩
 ·by_cases h8:t.kind = 8
  ·have e8:(if t.kind = 8 then (0:Int) else 100) = 0:=if_pos h8
   have HE2:Hid (A = r∧E = 0):=⟨HE.out.1.trans (by rw [if_pos rfl,if_pos h8]),HE.out.2.trans (by rw [if_pos rfl,if_pos h8])⟩
   clear HE h8
   go_wp2_with fail
   go_returns
   exact ⟨by rw [HE2.out.1,HE2.out.2];rfl,H3.out⟩
  ·have e8:(if t.kind = 8 then (0:Int) else 100) = 100:=if_neg h8
   by_cases h9:t.kind = 9
   ·have HP2:=(show Hid _ from HP.out w3 H3.out)
    rw [if_pos rfl,if_pos h9] at HP2
    have HE2:Hid (A = t.tgt∧E = 0):=⟨HE.out.1.trans (by rw [if_pos rfl,if_neg h8,if_pos h9]),HE.out.2.trans (by rw [if_pos rfl,if_neg h8,if_pos h9])⟩
    clear HE h8 h9 HP
    go_wp2_with fail
    refine Calls.mono HP2.out ?_
    rintro e w4 ⟨rfl,hb4⟩
    clear hst
    obtain ⟨w5,hst,hb5,hg5,-⟩:=boxed_what' w4 (thc t) rfl hone
    have k10:w5.cell? ⟨w4.heap.size,10,none⟩ = some (.int .i64 t.tgt):=by rw [cell_blk hg5];rfl
    have H5:Hid (Below w.heap.size w w5):=H3.out.trans ((hb4.trans (hb5.mono hb4.size)).mono H3.out.size)
    clear hb4 hb5 hg5 HP2 H3
    go_wp2_with fail
    go_returns
    exact ⟨by rw [HE2.out.1,HE2.out.2];rfl,H5.out⟩
   ·have HP2:=(show Hid _ from HP.out w3 H3.out)
    rw [if_pos rfl,if_neg h9] at HP2
    have HE2:Hid (A = 0∧E = 100):=⟨HE.out.1.trans (by rw [if_pos rfl,if_neg h8,if_neg h9]),HE.out.2.trans (by rw [if_pos rfl,if_neg h8,if_neg h9])⟩
    clear HE h8 h9 HP
    go_wp2_with fail
    refine Calls.mono HP2.out ?_
    rintro e w4 ⟨rfl,hb4⟩
    clear hst
    obtain ⟨w5,hst,hb5,hg5,-⟩:=boxed_what' w4 (thc t) rfl hone
    have H5:Hid (Below w.heap.size w w5):=H3.out.trans ((hb4.trans (hb5.mono hb4.size)).mono H3.out.size)
    clear hb4 hb5 hg5 HP2 H3
    go_wp2_with fail
    go_returns
    exact ⟨by rw [HE2.out.1,HE2.out.2];rfl,H5.out⟩
set_option maxHeartbeats 2000000 in
set_option maxRecDepth 8000 in
theorem Ask_no (hW:IsW w p M F) (hL:LtM M) {r n:Int} (hr:(Lit.int .i64 r).wf = true) (hno:findE M 8 r ≠ 0):Calls Tryz.prog 96 #[.pointer (some ⟨p,0,none⟩),.int .i64 r,.int .i64 n] w fun e w'=>e = .returned (.tuple #[.int .i64 0,.int .i64 (findE M 8 r)])∧Below w.heap.size w w':=by
 have HA:=(show Hid _ from find_any hW hL (q:=8) hr (.inl rfl))
 have hone:=hL.one r
 have hb:(findE M 8 r != 0) = true:=by simpa using hno
 clear hW hL hno
 generalize at7 M r = t at *
 generalize findE M 8 r = B at *
 go_enter Tryz.func96,Tryz.ntmps96
 go_wp2_with fail
 refine Calls.mono HA.out ?_
 rintro e w2 ⟨rfl,hb2⟩
 obtain ⟨w3,hst,hb3,hg3,-⟩:=boxed_what' w2 (thc t) rfl hone
 have H3:Hid (Below w.heap.size w w3):=hb2.trans (hb3.mono hb2.size)
 clear hb2 hb3 hg3 HA
 go_wp2_with fail
 go_returns
 exact ⟨rfl,H3.out⟩
set_option maxHeartbeats 2000000 in
set_option maxRecDepth 8000 in
theorem Take_no (hW:IsW w p M F) (hL:LtM M) {r n:Int} (hr:(Lit.int .i64 r).wf = true) (hno:findE M 9 r ≠ 0):Calls Tryz.prog 97 #[.pointer (some ⟨p,0,none⟩),.int .i64 r,.int .i64 n] w fun e w'=>e = .returned (.tuple #[.int .i64 0,.int .i64 (findE M 9 r)])∧Below w.heap.size w w':=by
 have HA:=(show Hid _ from find_any hW hL (q:=9) hr (.inr rfl))
 have hone:=hL.one r
 have hb:(findE M 9 r != 0) = true:=by simpa using hno
 clear hW hL hno
 generalize at7 M r = t at *
 generalize findE M 9 r = B at *
 go_enter Tryz.func97,Tryz.ntmps97
 go_wp2_with fail
 refine Calls.mono HA.out ?_
 rintro e w2 ⟨rfl,hb2⟩
 obtain ⟨w3,hst,hb3,hg3,-⟩:=boxed_what' w2 (thc t) rfl hone
 have H3:Hid (Below w.heap.size w w3):=hb2.trans (hb3.mono hb2.size)
 clear hb2 hb3 hg3 HA
 go_wp2_with fail
 go_returns
 exact ⟨rfl,H3.out⟩
def moveE (M:WM) (a b:Int):Int:=if (M.at a).isSome = false∨(M.at b).isSome = false then 5 else if (at7 M a).kind ≠ 9∨(at7 M b).kind ≠ 9 then 100 else 0
set_option maxHeartbeats 2000000 in
set_option maxRecDepth 8000 in
theorem Move_no (hW:IsW w p M F) (hL:LtM M) {a b:Int} (hra:(Lit.int .i64 a).wf = true) (hrb:(Lit.int .i64 b).wf = true) (hno:moveE M a b ≠ 0):Calls Tryz.prog 99 #[.pointer (some ⟨p,0,none⟩),.int .i64 a,.int .i64 b] w fun e w'=>e = .returned (.int .i64 (moveE M a b))∧Below w.heap.size w w':=by
 have HA:=(show Hid _ from find_any hW hL (q:=9) hra (.inr rfl))
 have HB:Hid (∀ w',Below w.heap.size w w'→Calls Tryz.prog 191 #[.pointer (some ⟨p,0,none⟩),.int .i64 b,.int .u8 9] w' fun e w''=>e = .returned (.tuple #[.agg (thc (at7 M b)),.int .i64 (findE M 9 b)])∧Below w'.heap.size w' w''):=fun w' hb=>find_any (hW.below hb) hL hrb (.inr rfl)
 have hone:=hL.one a
 have hone2:=hL.one b
 obtain ⟨E,hE⟩:∃ E,E = moveE M a b:=⟨_,rfl⟩
 rw [← hE] at hno ⊢
 unfold moveE at hE
 have hE1:(findE M 9 a = 5∧E = 5)∨((findE M 9 a ≠ 5∧findE M 9 a ≠ 1)∧findE M 9 b = 5∧E = 5)∨(findE M 9 a = 100∧findE M 9 b ≠ 5∧E = 100)∨(findE M 9 a = 0∧findE M 9 b = 100∧E = 100):=by
  unfold findE
  by_cases h1:(M.at a).isSome = true <;> by_cases h2:(M.at b).isSome = true <;> by_cases h3:(at7 M a).kind = 9 <;> by_cases h4:(at7 M b).kind = 9 <;> simp [h1,h2,h3,h4] at hE ⊢ <;> first | exact hE | exact absurd hE hno | omega
 clear hW hL hE hno
 generalize at7 M a = t at *
 generalize at7 M b = u at *
 generalize findE M 9 a = X at *
 generalize findE M 9 b = Y at *
 have HE:=(show Hid _ from hE1)
 clear hE1
 go_enter Tryz.func99,Tryz.ntmps99
 go_wp2_with fail
 refine Calls.mono HA.out ?_
 rintro e w2 ⟨rfl,hb2⟩
 obtain ⟨w3,hst,hb3,hg3,-⟩:=boxed_what' w2 (thc t) rfl hone
 have H3:Hid (Below w.heap.size w w3):=hb2.trans (hb3.mono hb2.size)
 clear hb2 hb3 hg3 HA
 have HB2:=(show Hid _ from HB.out w3 H3.out)
 go_wp2_with fail
 refine Calls.mono HB2.out ?_
 rintro e w4 ⟨rfl,hb4⟩
 clear hst
 obtain ⟨w5,hst,hb5,hg5,-⟩:=boxed_what' w4 (thc u) rfl hone2
 have H5:Hid (Below w.heap.size w w5):=H3.out.trans ((hb4.trans (hb5.mono hb4.size)).mono H3.out.size)
 clear hb4 hb5 hg5 HB HB2 H3
 rcases HE.out with ⟨rfl,h2⟩ | ⟨h1,rfl,h2⟩ | ⟨rfl,h1,h2⟩ | ⟨rfl,rfl,h2⟩
 ·have HE2:=(show Hid _ from h2)
  clear HE h2
  go_wp2_with fail
  go_ret
  exact ⟨by rw [HE2.out];rfl,H5.out⟩
 ·have HE2:=(show Hid _ from h2)
  have hb5:(X == 5) = false:=by simpa using h1.1
  have hb1:(X == 1) = false:=by simpa using h1.2
  clear HE h2 h1
  go_wp2_with fail
  go_ret
  exact ⟨by rw [HE2.out];rfl,H5.out⟩
 ·have HE2:=(show Hid _ from h2)
  have hb5:(Y == 5) = false:=by simpa using h1
  clear HE h2 h1
  go_wp2_with fail
  go_ret
  exact ⟨by rw [HE2.out];rfl,H5.out⟩
 ·have HE2:=(show Hid _ from h2)
  clear HE h2
  go_wp2_with fail
  go_ret
  exact ⟨by rw [HE2.out];rfl,H5.out⟩
end Go.Proofs.YthaliljaglldjaaGreat
/- posternref07's Make of a light thing; posternref10's Mint. -/
namespace Go.Proofs.YthaliljaglldjaaGreat
open Go.RowKit Go.ChangeMaps Go.MapKept
variable {w:World} {q:Nat} {M:WM} {G:Nat→Prop}
def MadeLR (w:World) (q:Nat) (M:WM) (G:Nat→Prop) (h:Int) (t:Th) (e:Ending) (w':World):Prop :=
 (M.made.getD h.toNat 0 < 512∧e = .returned (.tuple #[.int .i64 (M.last + 1),.int .i64 0])∧∃ G',IsR w' q (M.add t) G'∧Grew G w G' w') ∨
 (¬ M.made.getD h.toNat 0 < 512∧e = .returned (.tuple #[.int .i64 0,.int .i64 8])∧Below w.heap.size w w')
theorem MakeR.light {k h n l tg bi s:Int} {fu:Bool} {e:Ending} {w':World} (hm:MakeR w q M G (lt k h 0 0 n l tg bi s fu) 0 e w'):MadeLR w q M G h (lt k h 0 0 n l tg bi s fu) e w':=by
 rcases hm with ⟨h0,-⟩ | ⟨-,h1,h2,h3⟩ | ⟨-,h1,h2,vl,vals,G',h3,h4,h5,h6,h7⟩
 ·exact absurd rfl h0
 ·exact .inr ⟨h1,h2,h3⟩
 ·have e1:=h6 rfl
  have e2:=h7 rfl
  subst e1 e2
  exact .inl ⟨h1,h2,G',h3,h4,h5⟩
theorem rMake_lt (hR:IsR w q M G) (hN:RGood M) {k h n l tg:Int} (hk:0 ≤ k∧k ≤ 255) (hks:k ≠ 6∧k ≠ 7∧k ≠ 9∧k ≠ 11∧k ≠ 13∧k ≠ 14∧k ≠ 15∧k ≠ 16) (hh:0 ≤ h∧h < M.made.length)
 (hform:∀ w',Below w.heap.size w w'→Calls Tryz.prog 81 #[.agg (thc (lt k h 0 0 n l tg 0 0 false)),.int .i64 M.made.length] w' fun e w''=>e = .returned (.bool true)∧Below w'.heap.size w' w'') :
 Calls Tryz.prog 15 #[.pointer (some ⟨q,0,none⟩),.agg (thc (lt k h 0 0 n l tg 0 0 false))] w (MadeLR w q M G h (lt k h 0 0 n l tg 0 0 false)) :=
 (make7_W (F:=fun _=>False) hR hN.ok.len hN.last hN.mades (lt k h 0 0 n l tg 0 0 false) (SlAt.nil _ _ _ _) (SlAt.nil _ _ _ _) rfl rfl (depV_may (by rfl)) (fun x hx=>by cases hx) (Nat.zero_le _) (fun b h=>h.elim) hh hk ⟨hks.2.2.2.2.1,hks.2.2.2.2.2.1,hks.2.2.2.2.2.2.1⟩ 0 hform fun w' hb =>
  asked7_0 (hR.below hb) hN.ok (lt k h 0 0 n l tg 0 0 false) 0 hk hks [] (Nat.zero_le _) (fun w2 hb2=>refs7_lt w2 k h n l tg 0 0 false) fun x hx=>by cases hx).mono fun e w' h=>h.light
theorem rMake_9 (hR:IsR w q M G) (hN:RGood M) {h n tg:Int} {u:Th} (hh:0 ≤ h∧h < M.made.length) (hn:0 ≤ n∧n ≤ 9007199254740992) (hu:M.at tg = some u) (hu8:u.kind = 8) (huh:u.home = h) :
 Calls Tryz.prog 15 #[.pointer (some ⟨q,0,none⟩),.agg (thc (purseT h n tg))] w (MadeLR w q M G h (purseT h n tg)) :=
 (make7_W (F:=fun _=>False) hR hN.ok.len hN.last hN.mades (purseT h n tg) (SlAt.nil _ _ _ _) (SlAt.nil _ _ _ _) rfl rfl (depV_may (by rfl)) (fun x hx=>by cases hx) (Nat.zero_le _) (fun b h=>h.elim) hh (by show (0:Int) ≤ 9∧(9:Int) ≤ 255;decide) (by show (9:Int) ≠ 13∧(9:Int) ≠ 14∧(9:Int) ≠ 15;decide) 0
  (fun w' hb=>form7_9 w' M.made.length h hh n hn tg) fun w' hb =>
  askedq_9 (hR.below hb) hN.ok (purseT h n tg) 0 rfl hu ⟨hu8,huh⟩ [] (Nat.zero_le _) (fun w2 hb2=>refs7_lt w2 9 h n 0 tg 0 0 false) fun x hx=>by cases hx).mono fun e w' h=>h.light
set_option maxHeartbeats 2000000 in
set_option maxRecDepth 8000 in
theorem mintq_W (hR:IsR w q M G) (hN:RGood M) (hpl:M.made.length = M.parents.length + 1) {h:Int} (hh:0 ≤ h∧h < M.made.length):Calls Tryz.prog 101 #[.pointer (some ⟨q,0,none⟩),.int .i64 h] w (MadeLR w q M G h (mintT h 0 0)):=by
 have HMk:=(show Hid _ from rMake_lt hR hN (k:=8) (h:=h) (n:=0) (l:=0) (tg:=0) (by decide) (by decide) hh fun w' hb=>form7_8 w' M.made.length h hh 0 (by decide) 0 (by decide))
 obtain ⟨sP,sC,sT,sM,hV⟩:=hR
 obtain ⟨ln,hln⟩:∃ ln,ln = M.parents.length:=⟨_,rfl⟩
 obtain ⟨pM,cM,hsP⟩:∃ p c,sP = .slice p ln c:=by
  obtain ⟨h1,⟨rfl,h0⟩ | ⟨g,cap,cur,rfl,-⟩⟩:=hV.rp
  ·exact ⟨none,0,by rw [hln,h0]⟩
  ·exact ⟨_,_,by rw [hln]⟩
 have c0:w.cell? ⟨q,0,none⟩ = some (.slice pM ln cM):=by rw [cell_blk hV.blk,← hsP];rfl
 have h1:¬ h < 0:=by omega
 have h2:¬ h > (ln:Int):=by omega
 clear hV hN hpl hh hln hsP
 go_enter Tryz.func101,Tryz.ntmps101
 go_wp2_with fail
 refine Calls.mono HMk.out ?_
 intro e w' hm
 have HM:Hid (MadeLR w q M G h (mintT h 0 0) e w'):=hm
 rcases hm with ⟨h3,rfl,-⟩ | ⟨h3,rfl,-⟩
 ·clear h3
  go_wp2_with fail
  go_returns
  exact HM.out
 ·clear h3
  go_wp2_with fail
  go_returns
  exact HM.out
set_option maxHeartbeats 2000000 in
set_option maxRecDepth 8000 in
theorem mintq_no (hR:IsR w q M G) (hpl:M.made.length = M.parents.length + 1) {h:Int} (hh:h < 0∨h ≥ M.made.length):Calls Tryz.prog 101 #[.pointer (some ⟨q,0,none⟩),.int .i64 h] w fun e w'=>e = .returned (.tuple #[.int .i64 0,.int .i64 2])∧Below w.heap.size w w':=by
 obtain ⟨sP,sC,sT,sM,hV⟩:=hR
 obtain ⟨ln,hln⟩:∃ ln,ln = M.parents.length:=⟨_,rfl⟩
 obtain ⟨pM,cM,hsP⟩:∃ p c,sP = .slice p ln c:=by
  obtain ⟨h1,⟨rfl,h0⟩ | ⟨g,cap,cur,rfl,-⟩⟩:=hV.rp
  ·exact ⟨none,0,by rw [hln,h0]⟩
  ·exact ⟨_,_,by rw [hln]⟩
 have c0:w.cell? ⟨q,0,none⟩ = some (.slice pM ln cM):=by rw [cell_blk hV.blk,← hsP];rfl
 by_cases h1:h < 0
 ·clear hV hpl hh hln hsP
  go_enter Tryz.func101,Tryz.ntmps101
  go_wp2_with fail
  go_returns
  exact ⟨rfl,Below.refl _ _⟩
 ·have h2:h > (ln:Int):=by omega
  clear hV hpl hh hln hsP
  go_enter Tryz.func101,Tryz.ntmps101
  go_wp2_with fail
  go_returns
  exact ⟨rfl,Below.refl _ _⟩
end Go.Proofs.YthaliljaglldjaaGreat
