/- A part of the proof, several texts in one: Lives, Check, Lives10, R7N, NoS, R7S. -/
import Derived.Test.YthaliljaglldjaaGreatmAD
import Derived.Test.YthaliljaglldjaaGreatmBP
import Derived.Test.YthaliljaglldjaaGreatmAR
import Derived.Test.YthaliljaglldjaaGreatmAQ
import Derived.Test.YthaliljaglldjaaGreatmAK
import Derived.Deep.QuietTactic
import Derived.BigQuiet
import Derived.Test.YthaliljaglldjaaGreatmBF
import Derived.Test.YthaliljaglldjaaGreatmBJ
import Derived.Test.YthaliljaglldjaaGreatmAM
import Derived.Test.YthaliljaglldjaaGreatmAB
import Derived.Test.YthaliljaglldjaaGreatmAE
import Derived.Test.YthaliljaglldjaaGreatmAU
import Derived.Test.YthaliljaglldjaaGreatmAG
/- lives of posternlaw07: it is true. -/
namespace Go.Proofs.YthaliljaglldjaaGreat
open Go.RowKit Go.ChangeMaps Go.MapKept
def Own (w0 w:World) (p:Nat) (M:WM):Prop:=∃ F,IsW w p M F∧(∀ b,F b→w0.heap.size ≤ b)∧Below w0.heap.size w0 w
theorem Own.below {w0 w w':World} {p:Nat} {M:WM} (h:Own w0 w p M) (hb:Below w.heap.size w w'):Own w0 w' p M:=by
 obtain ⟨F,h1,h2,h3⟩:=h
 exact ⟨F,h1.below hb,h2,h3.trans (hb.mono h3.size)⟩
theorem Own.turn {w0 w w':World} {p:Nat} {M':WM} {F F':Nat→Prop} (h2:∀ b,F b→w0.heap.size ≤ b) (h3:Below w0.heap.size w0 w) (hW:IsW w' p M' F') (hg:Grew F w F' w'):Own w0 w' p M':=by
 refine ⟨F',hW,fun b hb=>?_,h3.trans (Keeps.below hg.1 h3.size h2)⟩
 rcases hg.2 b hb with h | h
 ·exact h2 b h
 ·exact Nat.le_trans h3.size h
end Go.Proofs.YthaliljaglldjaaGreat
/- Check: no mint has lost anything. -/
namespace Go.Proofs.YthaliljaglldjaaGreat
open Go.RowKit Go.Shelf Go.ChangeMaps Go.MapKept
attribute [local go_sem] Oper.semAt_some
structure CkAt (w:World) (b0:Nat) (p:Nat) (W:World):Prop where
 below:Below w.heap.size w W
 size:b0 ≤ W.heap.size
 q1:W.heap[w.heap.size]? = some (.cells #[.pointer (some ⟨p,0,none⟩)] 31 (0,0))
 q2:W.heap[w.heap.size + 1]? = some (.cells #[.int .i64 0] 32 (0,0))
theorem CkAt.grown {w W W':World} {b0 p:Nat} {row:Option Nat} (h:CkAt w b0 p W) (hb0:w.heap.size + 2 ≤ b0) (hg:W.grownBy W' row) (hr:∀ x,row = some x→b0 ≤ x):CkAt w b0 p W':=by
 have hk:∀ c,c < b0→c < W.heap.size→W'.heap[c]? = W.heap[c]?:=fun c hc hl=>hg.block c hl (fun e=>by have:=hr c e.symm;omega)
 exact ⟨h.below.grown hg h.below.size (fun k e=>by have:=hr k e;omega),Nat.le_trans h.size hg.size,(hk _ (by omega) (blk_lt h.q1)).trans h.q1,(hk _ (by omega) (blk_lt h.q2)).trans h.q2⟩
set_option maxHeartbeats 4000000 in
set_option maxRecDepth 100000 in
theorem Check_W {w:World} {p:Nat} {M:WM} {F:Nat→Prop} (hW:IsW w p M F)
 (hP:∀ x ∈ M.things,x.2.kind = 9→∃ h n m,x.2 = purseT h n m∧0 ≤ n)
 (hT:∀ x ∈ M.things,x.2.kind = 8→∃ h N lo,x.2 = mintT h N lo∧N - lo = sumF (M.things.filter (isP x.1))) :
 Calls Tryz.prog 100 #[.pointer (some ⟨p,0,none⟩)] w fun e w'=>e = .returned (.int .i64 0)∧Below w.heap.size w w':=by
 have HW:=(show Hid (IsW w p M F) from hW)
 have HP:=(show Hid _ from hP)
 have HT:=(show Hid _ from hT)
 clear hW hP hT
 refine (callsIn_wide (n:=5)).1 ?_
 refine callsIn_of_wp_marks Tryz.func100 rfl trivial ?_ rfl
 simp only [Tryz.ntmps100,List.size_toArray,List.length_cons,List.length_nil,Nat.reduceAdd,Nat.reduceSub,Array.replicate_succ,Array.replicate_zero,List.push_toArray,List.append_toArray,List.nil_append,List.cons_append]
 gi_wp2_with fail
 have hB1:Below w.heap.size w ((w.alloc (.cells #[.pointer (some ⟨p,0,none⟩)] 31)).alloc (.cells #[.int .i64 0] 32)):=((Below.refl _ w).alloc (Nat.le_refl _) _).alloc (by simp) _
 have q1:=blk2_old w (.cells #[.pointer (some ⟨p,0,none⟩)] 31) (.cells #[.int .i64 0] 32)
 have q2:=blk2_new w (.cells #[.pointer (some ⟨p,0,none⟩)] 31) (.cells #[.int .i64 0] 32)
 have hs1:((w.alloc (.cells #[.pointer (some ⟨p,0,none⟩)] 31)).alloc (.cells #[.int .i64 0] 32)).heap.size = w.heap.size + 2:=by simp
 generalize (w.alloc (.cells #[.pointer (some ⟨p,0,none⟩)] 31)).alloc (.cells #[.int .i64 0] 32) = w1 at *
 refine ⟨trivial,(callsIn_wide.2 (Sides_W (HW.out.below hB1))).mono ?_⟩
 rintro e _ ⟨rfl,rfl⟩
 have hmd:((M.made.length:Int) == 0) = false:=by
  have:=HW.out.ok.made
  exact beq_eq_false_iff_ne.2 (by omega)
 have c1:w1.cell? ⟨w.heap.size,0,none⟩ = some (.pointer (some ⟨p,0,none⟩)):=by rw [cell_blk q1];rfl
 have HQ:=(show Hid _ from And.intro q1 q2)
 have HB1:=(show Hid (Below w.heap.size w w1∧w1.heap.size = w.heap.size + 2) from ⟨hB1,hs1⟩)
 clear q1 q2 hB1 hs1
 gi_wp2_with fail
 refine ⟨trivial,(callsIn_wide.2 (Things_W w1 p)).mono ?_⟩
 rintro e _ ⟨rfl,rfl⟩
 gi_wp2_with fail
 obtain ⟨hq1,hq2⟩:=HQ.out
 have HB4:Hid (Below w.heap.size w (w1.alloc (.cells #[.pointer (some ⟨p,0,none⟩)] 31))):=HB1.out.1.alloc HB1.out.1.size _
 have hbx:(w1.alloc (.cells #[.pointer (some ⟨p,0,none⟩)] 31)).cell? ⟨w1.heap.size,0,none⟩ = some (.pointer (some ⟨p,0,none⟩)):=by
  rw [cell_blk (World.alloc_heap_new w1 _)];rfl
 have hin:CkAt w (w1.alloc (.cells #[.pointer (some ⟨p,0,none⟩)] 31)).heap.size p (w1.alloc (.cells #[.pointer (some ⟨p,0,none⟩)] 31)) :=
  ⟨HB4.out,Nat.le_refl _,(Below.heap_alloc _ _ _ (blk_lt hq1)).trans hq1,(Below.heap_alloc _ _ _ (blk_lt hq2)).trans hq2⟩
 have hsz4:w.heap.size + 2 ≤ (w1.alloc (.cells #[.pointer (some ⟨p,0,none⟩)] 31)).heap.size:=by
  have:=HB1.out.2
  simp
  omega
 have hseq:=things1_seq (n:=4) (HW.out.below HB4.out) hbx (fun _ _=>False) (fun _ _ _ h=>h.elim) (fun y:{x // x ∈ M.things}=>y.1) M.things.attach (List.attach_map_subtype_val _)
 have HSQ:=(show Hid _ from hseq)
 clear hseq hbx c1 hq1 hq2 HQ HB1
 generalize hw4:w1.alloc (.cells #[.pointer (some ⟨p,0,none⟩)] 31) = w4 at *
 clear hw4
 generalize w1.heap.size = bx at *
 refine wpIn_rangeFunc_ownF rfl (by decide) (gf:=224) (lb:=#[.pointer (some ⟨bx,0,none⟩)]) rfl trivial (enters_of Tryz.func224 (by kernel_rfl) rfl) HSQ.out (fun h k=>h.trans k)
  (fun W l o o' hl ho hc _=>⟨by simp,fun b cs e fr hb _=>(World.putObj_heap_other (fun h=>by subst h;rw [hb] at ho;cases ho;cases hc)).trans hb,fun _ h=>h.elim⟩) (Below.refl _ _) (fun _=>rfl)
  (fun (_:List {x // x ∈ M.things}) W=>CkAt w w4.heap.size p W) (fun _ _ _=>False)
  (fun s W W' row hs hg hr=>by exact CkAt.grown hs hsz4 hg (fun x e=>(hr x e).1)) (fun _ _ _ _ _ hs _ _=>hs) hin
  (fun x=>{ tmps:=#[.pointer (some ⟨p,0,none⟩),.pointer (some ⟨w.heap.size,0,none⟩),.pointer (some ⟨w.heap.size + 1,0,none⟩),.int .i64 x.1.1,.int .u8 x.1.2.kind,undef,undef,undef,undef,.pointer (some ⟨p,0,none⟩),.bool false,.bool false,.pointer (some ⟨p,0,none⟩),.int .i64 M.made.length,.bool false,.bool false,.pointer (some ⟨p,0,none⟩),.func (.func 224) #[] #[.pointer (some ⟨bx,0,none⟩)],.int .i64 x.1.1,.int .u8 x.1.2.kind,undef,undef,undef,undef,undef,undef,undef,undef,undef,undef,undef,undef,undef,undef,undef],defers:=[] }) ?assign ?body ?done ?stop
 case assign =>
  intro l x W K hK
  gi_wp2
  exact hK
 case body =>
  rintro l pre ⟨⟨i,t⟩,hm⟩ W hI -
  have hat:M.at i = some t:=HW.out.ok.at_of_mem hm
  have hiw:=HW.out.ok.at_wf hat
  by_cases hk:t.kind = 8
  ·obtain ⟨h',n',lo',rfl,hsum⟩:=HT.out (i,t) hm hk
   have hsm:=Sum_W (HW.out.below hI.below) hiw hat HP.out
   have hbd:=sumF_le (M.things.filter (isP i)) (fun y hy=>by
    obtain ⟨h1,h2⟩:=List.mem_filter.1 hy
    have h3:y.2.kind = 9:=by simp only [isP,Bool.and_eq_true,decide_eq_true_eq] at h2;exact h2.1
    obtain ⟨a,b,c,e,hn⟩:=HP.out y h1 h3
    rw [e]
    exact hn)
   replace hsum:n' - lo' = sumF (M.things.filter (isP i)):=hsum
   generalize sumF (M.things.filter (isP i)) = S at *
   have HSM:=(show Hid _ from hsm)
   have HI:=(show Hid _ from hI)
   have c1:W.cell? ⟨w.heap.size,0,none⟩ = some (.pointer (some ⟨p,0,none⟩)):=by rw [cell_blk hI.q1];rfl
   have hwr:wrap64 (n' - lo') = S:=by rw [hsum];unfold wrap64;omega
   clear hsm hI hk hsum hbd
   gi_wp2_with fail
   refine ⟨trivial,(CallsIn.inRound l (callsIn_wide.2 HSM.out)).mono ?_⟩
   rintro e W1 ⟨rfl,hb1⟩
   gi_wp2_with fail
   exact ⟨keepsOthers_of_below hb1,⟨hb1.size,fun b cs e fr hb _=>(hb1.block b (blk_lt hb)).trans hb,fun _ h=>h.elim⟩,CkAt.grown HI.out hsz4 (grownBy_of_below hb1) (fun _ e=>by cases e)⟩
  ·have hk0:(t.kind != 8) = true:=by simpa using hk
   have HI:=(show Hid _ from hI)
   clear hI
   gi_wp2_with fail
   exact ⟨keepsOthers_of_below (Below.refl _ _),KpO.refl _ _,HI.out⟩
 case done =>
  rintro D ys W hD rfl hI hK
  obtain ⟨c2,f2⟩:=box_facts hI.q2
  have HI:=(show Hid _ from hI)
  clear hI
  gi_wp2_with fail
  have hne:w.heap.size + 1 ≠ D:=by omega
  have hK':(W.setCell ⟨w.heap.size + 1,0,none⟩ (.int .i64 0)).heap[D]? = some (.deferred (some [])):=(Below.heap_setCell _ _ _ _ (fun e=>hne e.symm)).trans hK
  have hs:=heap_setCell_box (.int .i64 0) HI.out.q2
  have c5:((W.setCell ⟨w.heap.size + 1,0,none⟩ (.int .i64 0)).putObj D (.deferred none)).cell? ⟨w.heap.size + 1,0,none⟩ = some (.int .i64 0):=by
   rw [cell_blk ((World.putObj_heap_other hne).trans hs)];rfl
  refine ⟨by simp,.inl ⟨_,_,rfl,run_takeDeferred hK',?_⟩⟩
  refine ⟨.int .i64 0,?_,rfl,(HI.out.below.setCell (p:=⟨w.heap.size + 1,0,none⟩) (Nat.le_succ _) _).grown (grownBy_putObj' _ D _) ?_ (fun k e=>by cases e;omega)⟩
  ·simp [results,Tryz.f100,go_sem,c5]
  ·have:=HI.out.below.size
   simpa [World.setCell] using this
 case stop =>
  rintro D c pre W _ _ h _
  exact h.elim
end Go.Proofs.YthaliljaglldjaaGreat
/- lives of posternlaw10: it is true. -/
namespace Go.Proofs.YthaliljaglldjaaGreat
open Go.RowKit Go.ChangeMaps Go.MapKept
def PM0:WM:=WM.new []
def PM1:WM:=makeM PM0 (mintT 0 0 0)
def PM2:WM:=(PM1.add (purseT 0 10 1)).set 1 (mintT 0 (0 + 10) 0)
def PM3:WM:=(PM2.add (purseT 0 3 1)).set 2 (purseT 0 (10 - 3) 1)
def PM4:WM:=(PM3.set 3 (purseT 0 (3 + 7) 1)).set 2 (purseT 0 0 1)
theorem ptree:TreeOk []:=⟨by decide,fun i p h=>by simp at h⟩
theorem pat1:PM1.at 1 = some (mintT 0 0 0):=rfl
theorem pat2:PM2.at 1 = some (mintT 0 10 0):=rfl
theorem pat2':PM2.at 2 = some (purseT 0 10 1):=rfl
theorem pat3:PM3.at 2 = some (purseT 0 7 1):=rfl
theorem pat3':PM3.at 3 = some (purseT 0 3 1):=rfl
theorem pat4:PM4.at 3 = some (purseT 0 10 1):=rfl
theorem pths:PM4.things = [(1,mintT 0 10 0),(2,purseT 0 0 1),(3,purseT 0 10 1)]:=rfl
theorem ppur:∀ x ∈ PM4.things,x.2.kind = 9→∃ h n m,x.2 = purseT h n m∧0 ≤ n:=by
 rw [pths]
 intro x hx hk
 simp only [List.mem_cons,List.not_mem_nil,or_false] at hx
 rcases hx with rfl | rfl | rfl
 ·cases hk
 ·exact ⟨0,0,1,rfl,by decide⟩
 ·exact ⟨0,10,1,rfl,by decide⟩
theorem pmint:∀ x ∈ PM4.things,x.2.kind = 8→∃ h N lo,x.2 = mintT h N lo∧N - lo = sumF (PM4.things.filter (isP x.1)):=by
 rw [pths]
 intro x hx hk
 simp only [List.mem_cons,List.not_mem_nil,or_false] at hx
 rcases hx with rfl | rfl | rfl
 ·exact ⟨0,10,0,rfl,by decide⟩
 ·cases hk
 ·cases hk
set_option maxHeartbeats 4000000 in
set_option maxRecDepth 8000 in
theorem lives10_W (w:World):Calls Tryz.prog 22 #[] w fun e w'=>e = .returned (.bool true)∧Below w.heap.size w w':=by
 go_enter Tryz.func22,Tryz.ntmps22
 go_wp2_with fail
 refine (New_W w none 0 [] (.inl rfl)).mono ?_
 rintro e w1 hpost
 obtain ⟨p,F,rfl,hW,hF,hb⟩:=(Or.resolve_right hpost (fun h=>h.1 ptree)).2
 clear hpost
 have HO:Hid (Own w w1 p PM0):=⟨F,hW,fun b h=>hF b h,hb⟩
 clear hW hF hb
 go_wp2_with fail
 obtain ⟨F,hW,h2,h3⟩:=HO.out
 refine (Mint_W hW (by decide) (h:=0) (by decide)).mono ?_
 rintro e w2 (⟨-,rfl,F',hW',hg⟩ | ⟨hx,-,-⟩)
 rotate_left
 ·exact absurd (by decide) hx
 have HO2:Hid (Own w w2 p PM1):=Own.turn h2 h3 hW' hg
 clear HO hW h2 h3 hW' hg
 simp only [show PM0.last + 1 = 1 from rfl]
 go_wp2_with fail
 obtain ⟨F2,hW,h2,h3⟩:=HO2.out
 refine (Ask_W hW (r:=1) rfl (by decide) (by decide) pat1 (by decide) (by decide) (n:=10)).mono ?_
 rintro e w3 (⟨hx,-⟩ | ⟨hx,-⟩ | ⟨-,hx,-⟩ | ⟨-,-,rfl,F',hW',hg⟩)
 ·exact absurd hx (by decide)
 ·exact absurd hx (by decide)
 ·exact absurd (by decide) hx
 have HO3:Hid (Own w w3 p PM2):=Own.turn h2 h3 hW' hg
 clear HO2 hW h2 h3 hW' hg
 simp only [show PM1.last + 1 = 2 from rfl]
 go_wp2_with fail
 obtain ⟨F3,hW,h2,h3⟩:=HO3.out
 refine (Ask_W hW (r:=1) rfl (by decide) (by decide) pat2 (by decide) (by decide) (n:=-1)).mono ?_
 rintro e w4 (⟨-,rfl,hb⟩ | ⟨hx,-⟩ | ⟨hx,-⟩ | ⟨hx,-⟩)
 rotate_left
 ·exact absurd hx (by decide)
 ·exact absurd hx (by decide)
 ·exact absurd hx (by decide)
 have HO4:Hid (Own w w4 p PM2):=HO3.out.below hb
 clear HO3 hW h2 h3 hb
 go_wp2_with fail
 obtain ⟨F4,hW,h2,h3⟩:=HO4.out
 refine (Take_W hW (r:=2) rfl (by decide) (by decide) pat2' pat2 (by decide) (n:=3)).mono ?_
 rintro e w5 (⟨hx,-⟩ | ⟨hx,-⟩ | ⟨-,hx,-⟩ | ⟨-,-,rfl,F',hW',hg⟩)
 ·exact absurd hx (by decide)
 ·exact absurd hx (by decide)
 ·exact absurd (by decide) hx
 have HO5:Hid (Own w w5 p PM3):=Own.turn h2 h3 hW' hg
 clear HO4 hW h2 h3 hW' hg
 simp only [show PM2.last + 1 = 3 from rfl]
 go_wp2_with fail
 obtain ⟨F5,hW,h2,h3⟩:=HO5.out
 refine (Get_W hW (r:=2) rfl pat3).mono ?_
 rintro e w6 ⟨rfl,hb⟩
 have HO6:Hid (Own w w6 p PM3):=HO5.out.below hb
 clear HO5 hW h2 h3 hb
 go_wp2_with fail
 obtain ⟨F6,hW,h2,h3⟩:=HO6.out
 refine (Move_W hW pat3' pat3 (by decide) (by decide) (by decide) (by decide)).mono ?_
 rintro e w7 (⟨hx,-⟩ | ⟨-,-,hx,-⟩ | ⟨-,-,-,rfl,hW',hk⟩)
 ·exact absurd hx (by decide)
 ·exact absurd hx (by decide)
 have HO7:Hid (Own w w7 p PM4):=⟨F6,hW',h2,h3.trans (Keeps.below hk h3.size h2)⟩
 clear HO6 hW h2 h3 hW' hk
 go_wp2_with fail
 obtain ⟨F7,hW,h2,h3⟩:=HO7.out
 refine (Get_W hW (r:=3) rfl pat4).mono ?_
 rintro e w8 ⟨rfl,hb⟩
 have HO8:Hid (Own w w8 p PM4):=HO7.out.below hb
 clear HO7 hW h2 h3 hb
 go_wp2_with fail
 obtain ⟨F8,hW,h2,h3⟩:=HO8.out
 refine (Check_W hW ppur pmint).mono ?_
 rintro e w9 ⟨rfl,hb⟩
 have HB9:Hid (Below w.heap.size w w9):=h3.trans (hb.mono h3.size)
 clear HO8 hW h2 h3 hb
 go_wp2_with fail
 go_ret
 exact ⟨rfl,HB9.out⟩
end Go.Proofs.YthaliljaglldjaaGreat
/- posternref07's New at sides that may be. -/
namespace Go.Proofs.YthaliljaglldjaaGreat
open Go.RowKit Go.ChangeMaps Go.MapKept
def N7M (n0 n:Nat) (v:Value) (wx:World):Prop:=∃ g,v = .slice (some ⟨g,0,none⟩) (n + 1) (n + 1)∧n0 ≤ g∧wx.heap[g]? = some (.cells (madeCells #[.int .i64 0] (n + 1)) 3 (0,0))
def N7C (n0 n:Nat) (v:Value) (wx:World):Prop:=∃ g,v = .slice (some ⟨g,0,none⟩) n n∧n0 ≤ g∧wx.heap[g]? = some (.cells (madeCells #[.bool false] n) 4 (0,0))
def N7W (w:World) (n:Nat) (v:Value) (wx:World):Prop:=∃ q gc gm,v = .pointer (some ⟨q,0,none⟩)∧w.heap.size ≤ q∧Below w.heap.size w wx ∧
 wx.heap[q]? = some (.cells #[.slice none 0 0,.slice (some ⟨gc,0,none⟩) n n,.slice none 0 0,.int .i64 0,.slice (some ⟨gm,0,none⟩) (n + 1) (n + 1)] 94 (0,0)) ∧
 w.heap.size ≤ gc∧wx.heap[gc]? = some (.cells (madeCells #[.bool false] n) 4 (0,0))∧w.heap.size ≤ gm∧wx.heap[gm]? = some (.cells (madeCells #[.int .i64 0] (n + 1)) 3 (0,0))
structure NL (w:World) (q gc gm n:Nat) (xs:List Int) (u:Value) (wr:World):Prop where
 bel:Below w.heap.size w wr
 blk:wr.heap[q]? = some (.cells #[u,.slice (some ⟨gc,0,none⟩) n n,.slice none 0 0,.int .i64 0,.slice (some ⟨gm,0,none⟩) (n + 1) (n + 1)] 94 (0,0))
 ge:w.heap.size ≤ q
 c:w.heap.size ≤ gc∧wr.heap[gc]? = some (.cells (madeCells #[.bool false] n) 4 (0,0))
 m:w.heap.size ≤ gm∧wr.heap[gm]? = some (.cells (madeCells #[.int .i64 0] (n + 1)) 3 (0,0))
 row:wr.ownsRow w.heap.size 3 1 u xs.length (xs.map (Value.int .i64))
 lt:q < wr.heap.size
 apart:∀ b,u.ownBlock = some b→b ≠ q∧b ≠ gc∧b ≠ gm
def NaQ (w1:World) (B:Nat) (u:Value) (ys:List Int) (x:Int) (v:Value) (wx:World):Prop :=
 wx.ownsRow B 3 1 v (ys ++ [x]).length ((ys ++ [x]).map (Value.int .i64))∧Keeps (fun b=>u.ownBlock = some b) w1 wx∧(v.ownBlock = u.ownBlock∨∃ g,v.ownBlock = some g∧w1.heap.size ≤ g)
theorem NL.next {w wr w7:World} {q gc gm n:Nat} {ys:List Int} {x:Int} {u v:Value} (h:NL w q gc gm n ys u wr) (hq:NaQ wr w.heap.size u ys x v w7):NL w q gc gm n (ys ++ [x]) v (w7.setCell ⟨q,0,none⟩ v):=by
 obtain ⟨h1,hk,ho⟩:=hq
 have hks:=Keeps.setCell (S:=fun b=>b = q) w7 ⟨q,0,none⟩ v rfl
 have hqc:gc ≠ q:=fun e=>by have:=h.c.2;rw [e,h.blk] at this;injection this with this;injection this with _ h2;exact absurd h2 (by decide)
 have hqm:gm ≠ q:=fun e=>by have:=h.m.2;rw [e,h.blk] at this;injection this with this;injection this with _ h2;exact absurd h2 (by decide)
 have hv:∀ b,v.ownBlock = some b→b ≠ q∧b ≠ gc∧b ≠ gm:=fun b hb=>by
  rcases ho with ho | ⟨g,ho,hg⟩
  ·exact h.apart b (ho ▸ hb)
  ·rw [ho] at hb
   cases hb
   have:=h.lt
   have:=blk_lt h.c.2
   have:=blk_lt h.m.2
   omega
 exact {
  bel:=(h.bel.trans (hk.below h.bel.size fun b hb=>(h.row.lt b hb).1)).setCell h.ge _
  blk:=blk_setCell (hk.none h.blk fun e=>(h.apart _ e).1 rfl) 0 v
  ge:=h.ge
  c:=⟨h.c.1,hks.none (hk.none h.c.2 fun e=>(h.apart _ e).2.1 rfl) hqc⟩
  m:=⟨h.m.1,hks.none (hk.none h.m.2 fun e=>(h.apart _ e).2.2 rfl) hqm⟩
  row:=ownsRow_keeps h1 hks fun b hb e=>(hv b hb).1 e
  lt:=by have:=h.lt;have:=hk.size;simp [World.setCell];omega
  apart:=hv }
theorem madeCells_list (z:Value) (n:Nat):(madeCells #[z] n).toList = List.replicate n z:=by
 refine List.ext_getElem? fun i=>?_
 rw [Array.getElem?_toList,List.getElem?_replicate]
 by_cases h:i < n <;> simp [madeCells,h,Nat.mod_one]
theorem made_own {w:World} {g n:Nat} {e:TypeId} {z:Value} (hb:w.heap[g]? = some (.cells (madeCells #[z] n) e (0,0))) (hn:n ≤ 100):w.ownsRow 0 e 1 (.slice (some ⟨g,0,none⟩) n n) n (List.replicate n z):=by
 refine ⟨by simp,.inr ⟨g,n,madeCells #[z] n,rfl,Nat.zero_le _,hb,Nat.le_refl _,by unfold maxLen;omega,by rw [size_madeCells,Nat.mul_one],?_⟩⟩
 rw [madeCells_list,Nat.mul_one]
 simp
theorem NL.isR {w wr:World} {q gc gm:Nat} {xs:List Int} {u:Value} (h:NL w q gc gm xs.length xs u wr) (hn:xs.length < 16):IsR wr q (WM.new xs) (fun b=>w.heap.size ≤ b∧b < wr.heap.size):=by
 have hqc:gc ≠ q:=fun e=>by have:=h.c.2;rw [e,h.blk] at this;injection this with this;injection this with _ h2;exact absurd h2 (by decide)
 have hqm:gm ≠ q:=fun e=>by have:=h.m.2;rw [e,h.blk] at this;injection this with this;injection this with _ h2;exact absurd h2 (by decide)
 have hcm:gc ≠ gm:=fun e=>by have:=h.c.2;rw [e,h.m.2] at this;injection this with this;injection this with _ h2;exact absurd h2 (by decide)
 refine ⟨u,.slice (some ⟨gc,0,none⟩) xs.length xs.length,.slice none 0 0,.slice (some ⟨gm,0,none⟩) (xs.length + 1) (xs.length + 1),?_⟩
 exact {
  blk:=h.blk
  rp:=row_mono h.row (Nat.zero_le _)
  rc:=by
   have:=made_own h.c.2 (by omega)
   simpa [WM.new] using this
  rt:=World.ownsRow_nil _ _ _ _
  rm:=by
   have:=made_own h.m.2 (by omega)
   simpa [WM.new] using this
  own:=fun b hb=>by
   rcases hb with rfl | hb | hb | hb | hb
   ·exact ⟨h.ge,h.lt⟩
   ·exact h.row.lt b hb
   ·cases hb;exact ⟨h.c.1,blk_lt h.c.2⟩
   ·cases hb
   ·cases hb;exact ⟨h.m.1,blk_lt h.m.2⟩
  lt:=fun b hb=>hb.2
  deep:=fun r t ht=>by cases ht
  apq:=⟨fun e=>(h.apart q e).1 rfl,fun e=>by injection e with e;exact hqc e,(fun e=>by cases e),fun e=>by injection e with e;exact hqm e⟩
  app:=fun b hb=>⟨fun e=>by injection e with e;exact (h.apart b hb).2.1 e.symm,(fun e=>by cases e),fun e=>by injection e with e;exact (h.apart b hb).2.2 e.symm⟩
  apc:=fun b hb=>⟨(fun e=>by cases e),fun e=>by injection hb with hb;injection e with e;exact hcm (hb.trans e.symm)⟩
  apt:=fun b hb=>by cases hb }
def NaP (b o i q n c B0:Nat) (u:Value) (x:Int) (wr:World) (ys:List Int) (p:Bool) (j:Nat) (v:Value) (wx:World):Prop :=
 match j with
 | 0=>v = .pointer (some ⟨q,0,none⟩)
 | 1=>v = .pointer (some ⟨q,0,none⟩)
 | 2=>v = .pointer (some ⟨q,0,none⟩)
 | 3=>v = .pointer (some ⟨q,0,none⟩)
 | 4=>v = u
 | 5=>v = .slice (some ⟨b,o,none⟩) n c
 | 6=>v = .int .i64 i
 | 7=>v = .pointer (some ⟨b,o + i,none⟩)
 | 8=>v = .int .i64 x
 | 9=>p = false→(∃ b',v = .slice (some ⟨b',0,none⟩) 1 1∧wx.heap[b']? = some (.cells #[.int .i64 x] 3 (0,0)))
 | 10=>p = true→NaQ wr B0 u ys x v wx
 | 11=>v = .pointer (some ⟨q,0,none⟩)
 | 12=>v = .pointer (some ⟨q,0,none⟩)
 | _=>True
theorem NaP.stab {b o i q n c B0:Nat} {u:Value} {x:Int} {wr:World} {ys:List Int}:∀ (j:Nat) (v:Value) (w w':World),Below w.heap.size w w'→NaP b o i q n c B0 u x wr ys false j v w→NaP b o i q n c B0 u x wr ys false j v w':=by
 intro j v w w' hR h
 unfold NaP at h ⊢
 split at h
 ·exact h
 ·exact h
 ·exact h
 ·exact h
 ·exact h
 ·exact h
 ·exact h
 ·exact h
 ·exact h
 ·intro _
  have h:=h rfl
  exact h.imp fun _ h=>⟨h.1,below_blk hR h.2⟩
 ·exact fun e=>by cases e
 ·exact h
 ·exact h
 ·trivial
theorem NaP.turn {b o i q n c B0:Nat} {u:Value} {x:Int} {wr:World} {ys:List Int}:∀ (j:Nat) (v:Value) (w w':World),j ≠ 10→NaP b o i q n c B0 u x wr ys false j v w→NaP b o i q n c B0 u x wr ys true j v w':=by
 intro j v w w' hne h
 unfold NaP at h ⊢
 split at h
 ·exact h
 ·exact h
 ·exact h
 ·exact h
 ·exact h
 ·exact h
 ·exact h
 ·exact h
 ·exact h
 ·exact fun e=>by cases e
 ·exact absurd rfl hne
 ·exact h
 ·exact h
 ·trivial
def NwP (pa:Option Addr) (n c n0:Nat) (w0:World) (p:Bool) (j:Nat) (v:Value) (wx:World):Prop :=
 match j with
 | 0=>v = .slice pa n c
 | 1=>v = .int .i64 n
 | 2=>v = .int .i64 ((n:Int) + 1)
 | 3=>p = false→N7M n0 n v wx
 | 4=>v = .slice pa n c
 | 5=>v = .int .i64 n
 | 6=>p = false→N7C n0 n v wx
 | 7=>p = false→(∃ sM sC,v = .agg #[.slice none 0 0,sC,.slice none 0 0,.int .i64 0,sM]∧N7M n0 n sM wx∧N7C n0 n sC wx)
 | 8=>p = true→N7W w0 n v wx
 | _=>True
theorem NwP.stab {pa:Option Addr} {n c n0:Nat} {w0:World}:∀ (j:Nat) (v:Value) (w w':World),Below w.heap.size w w'→NwP pa n c n0 w0 false j v w→NwP pa n c n0 w0 false j v w':=by
 intro j v w w' hR h
 unfold NwP at h ⊢
 split at h
 ·exact h
 ·exact h
 ·exact h
 ·intro _
  have h:=h rfl
  exact h.imp fun _ h=>⟨h.1,h.2.1,below_blk hR h.2.2⟩
 ·exact h
 ·exact h
 ·intro _
  have h:=h rfl
  exact h.imp fun _ h=>⟨h.1,h.2.1,below_blk hR h.2.2⟩
 ·intro _
  have h:=h rfl
  exact h.imp fun _ h=>h.imp fun _ h=>⟨h.1,h.2.1.imp fun _ h=>⟨h.1,h.2.1,below_blk hR h.2.2⟩,h.2.2.imp fun _ h=>⟨h.1,h.2.1,below_blk hR h.2.2⟩⟩
 ·exact fun e=>by cases e
 ·trivial
theorem NwP.turn {pa:Option Addr} {n c n0:Nat} {w0:World}:∀ (j:Nat) (v:Value) (w w':World),j ≠ 8→NwP pa n c n0 w0 false j v w→NwP pa n c n0 w0 true j v w':=by
 intro j v w w' hne h
 unfold NwP at h ⊢
 split at h
 ·exact h
 ·exact h
 ·exact h
 ·exact fun e=>by cases e
 ·exact h
 ·exact h
 ·exact fun e=>by cases e
 ·exact fun e=>by cases e
 ·exact absurd rfl hne
 ·trivial
set_option maxHeartbeats 8000000 in
set_option maxRecDepth 20000 in
theorem new7_W (w:World) (pa:Option Addr) (c:Nat) (xs:List Int) (hpa:SideArg w pa xs) (hT:TreeOk xs):Calls Tryz.prog 13 #[.slice pa xs.length c] w fun e w'=>∃ q G,e = .returned (.tuple #[.pointer (some ⟨q,0,none⟩),.int .i64 0])∧IsR w' q (WM.new xs) G∧(∀ b,G b→w.heap.size ≤ b)∧Below w.heap.size w w':=by
 obtain ⟨n,hn⟩:∃ n,n = xs.length:=⟨_,rfl⟩
 rw [← hn]
 have hn16:¬ (n:Int) ≥ 16:=by have:=hT.1;omega
 have hn1:wrap64 ((n:Int) + 1) = (n:Int) + 1:=by have:=hT.1;unfold wrap64;omega
 have hn2:IntKind.i64.wrap ((n:Int) + 1) = (n:Int) + 1:=by have:=hT.1;simp [IntKind.wrap,IntKind.signed,IntKind.bits];omega
 have HA:=(show Hid (SideArg w pa xs∧TreeOk xs∧n = xs.length∧n < 16) from ⟨hpa,hT,hn,by rw [hn];exact hT.1⟩)
 have HR:Hid (Below w.heap.size w w):=Below.refl _ _
 clear hpa hT hn
 go_enter Tryz.func13,Tryz.ntmps13
 go_upto_region 3 with fail
 obtain ⟨n0,hn0⟩:∃ b,b = w.heap.size:=⟨_,rfl⟩
 have HN0:=(show Hid (n0 = w.heap.size) from hn0)
 clear hn0
 refine wp_region_growPK 9 8 [99] (by kernel_rfl) rfl (by kernel_rfl) (by kernel_rfl) (by decide) (by kernel_rfl) (fun a b=>Below a.heap.size a b) (NwP pa n c n0 w) (fun p w'=>p = false→Below w.heap.size w w') NwP.stab (fun _=>below_drew) (fun a b h hR _=>(h rfl).trans (hR.mono (h rfl).size)) ?_ ?_ ?_ ?_ ?_
 ·exact fun _ _ _ _ _ h1 h2=>noGuard (by kernel_rfl) h1 h2
 ·intro j q a w7 hne hq hC hG
  have hC:=hC rfl
  have hj:j < 9:=(List.getElem?_eq_some_iff.1 hq).1
  match j,hj with
  | 0,_=>cases hq;have h0':a.tmps[0]?.getD undef = .slice pa n c:=gq (hG.fr 0 (by simp));unfold Oper.wp;simp [go_sem,Act.eval,h0'];exact ⟨_,rfl,Below.refl _ _,rfl⟩
  | 1,_=>cases hq;have h9':a.tmps[9]?.getD undef = .slice pa n c:=gq (hG.dep ⟨0,.data⟩ (by simp) rfl _ rfl);unfold Oper.wp;simp [go_sem,Act.eval,h9'];exact ⟨_,rfl,Below.refl _ _,rfl⟩
  | 2,_=>cases hq;have h10':a.tmps[10]?.getD undef = .int .i64 n:=gq (hG.dep ⟨1,.data⟩ (by simp) rfl _ rfl);unfold Oper.wp;simp [go_sem,Act.eval,h10',hn2];exact ⟨_,rfl,Below.refl _ _,rfl⟩
  | 3,_ =>
    cases hq
    have h11:a.tmps.getD 11 undef = .int .i64 ((n:Int) + 1):=hG.dep ⟨2,.data⟩ (by simp) rfl _ rfl
    have h11':a.tmps[11]?.getD undef = .int .i64 ((n:Int) + 1):=gq h11
    have hrun:=make_run w7 infoInt Tryz.underlying64 (by decide) (n:=n + 1) (by have:=HA.out.2.2.2;omega)
    rw [show ((n + 1:Nat):Int) = (n:Int) + 1 from by omega] at hrun
    refine step_g (.slice (some ⟨w7.heap.size,0,none⟩) (n + 1) (n + 1)) ?_ ((Below.refl _ _).alloc (Nat.le_refl _) _) (fun _=>⟨_,rfl,by rw [HN0.out];exact hC.size,blk_new _ _⟩)
    show (((Instr.makeSlice 64 (a.tmps.getD 11 undef) (a.tmps.getD 11 undef)) >>= fun v=>pure (Next.value v):Sem Next).run Tryz.prog w7) = _
    rw [h11]
    simp only [Sem.run_bind,hrun,Result.andThen,Sem.run_pure]
  | 4,_=>cases hq;have h0':a.tmps[0]?.getD undef = .slice pa n c:=gq (hG.fr 0 (by simp));unfold Oper.wp;simp [go_sem,Act.eval,h0'];exact ⟨_,rfl,Below.refl _ _,rfl⟩
  | 5,_=>cases hq;have h13':a.tmps[13]?.getD undef = .slice pa n c:=gq (hG.dep ⟨4,.data⟩ (by simp) rfl _ rfl);unfold Oper.wp;simp [go_sem,Act.eval,h13'];exact ⟨_,rfl,Below.refl _ _,rfl⟩
  | 6,_ =>
    cases hq
    have h14:a.tmps.getD 14 undef = .int .i64 n:=hG.dep ⟨5,.data⟩ (by simp) rfl _ rfl
    have h14':a.tmps[14]?.getD undef = .int .i64 n:=gq h14
    have hrun:=make_run w7 infoBool Tryz.underlying92 (by decide) (n:=n) (by have:=HA.out.2.2.2;omega)
    refine step_g (.slice (some ⟨w7.heap.size,0,none⟩) n n) ?_ ((Below.refl _ _).alloc (Nat.le_refl _) _) (fun _=>⟨_,rfl,by rw [HN0.out];exact hC.size,blk_new _ _⟩)
    show (((Instr.makeSlice 92 (a.tmps.getD 14 undef) (a.tmps.getD 14 undef)) >>= fun v=>pure (Next.value v):Sem Next).run Tryz.prog w7) = _
    rw [h14]
    simp only [Sem.run_bind,hrun,Result.andThen,Sem.run_pure]
  | 7,_ =>
    cases hq
    have p12:N7M n0 n (a.tmps.getD 12 undef) w7:=hG.dep ⟨3,.data⟩ (by simp) rfl _ rfl rfl
    have p15:N7C n0 n (a.tmps.getD 15 undef) w7:=hG.dep ⟨6,.data⟩ (by simp) rfl _ rfl rfl
    obtain ⟨g1,e12,m1,m2⟩:=p12
    obtain ⟨g2,e15,m3,m4⟩:=p15
    have h12':a.tmps[12]?.getD undef = .slice (some ⟨g1,0,none⟩) (n + 1) (n + 1):=by rw [← e12];simp [Array.getD_eq_getD_getElem?]
    have h15':a.tmps[15]?.getD undef = .slice (some ⟨g2,0,none⟩) n n:=by rw [← e15];simp [Array.getD_eq_getD_getElem?]
    unfold Oper.wp
    simp [go_sem,Act.eval,h12',h15']
    exact ⟨_,rfl,Below.refl _ _,fun _=>⟨_,_,rfl,⟨g1,rfl,m1,m2⟩,⟨g2,rfl,m3,m4⟩⟩⟩
  | 8,_=>exact absurd rfl hne
 ·intro q a w7 hq hC hG
  have hC:=hC rfl
  cases hq
  have p16:(∃ sM sC,(a.tmps.getD 16 undef) = .agg #[.slice none 0 0,sC,.slice none 0 0,.int .i64 0,sM]∧N7M n0 n sM w7∧N7C n0 n sC w7):=hG.dep ⟨7,.data⟩ (by simp) rfl _ rfl rfl
  obtain ⟨sM,sC,e16,⟨g1,rfl,m1,m2⟩,⟨g2,rfl,m3,m4⟩⟩:=p16
  have h16':a.tmps[16]?.getD undef = .agg #[.slice none 0 0,.slice (some ⟨g2,0,none⟩) n n,.slice none 0 0,.int .i64 0,.slice (some ⟨g1,0,none⟩) (n + 1) (n + 1)]:=by rw [← e16];simp [Array.getD_eq_getD_getElem?]
  unfold Oper.wp
  simp [go_sem,Act.eval,h16']
  exact ⟨_,rfl,fun _=>⟨w7.heap.size,g2,g1,rfl,hC.size,hC.alloc hC.size _,blk_new _ _,by rw [← HN0.out];exact m3,blk_old _ _ m4,by rw [← HN0.out];exact m1,blk_old _ _ m2⟩,fun k u hk h=>NwP.turn k u w7 _ hk h⟩
 ·intro j q a w7 hl hq hC hG
  have hj:j < 9:=(List.getElem?_eq_some_iff.1 hq).1
  match j,hj with
  | 0,_=>exact absurd hl (by decide)
  | 1,_=>exact absurd hl (by decide)
  | 2,_=>exact absurd hl (by decide)
  | 3,_=>exact absurd hl (by decide)
  | 4,_=>exact absurd hl (by decide)
  | 5,_=>exact absurd hl (by decide)
  | 6,_=>exact absurd hl (by decide)
  | 7,_=>exact absurd hl (by decide)
  | 8,_=>exact absurd hl (by decide)
 ·intro a w7 hC hdf hsz hfr hphi
  have e0:a.tmps.getD 9 undef = .slice pa n c:=hphi 0 _ rfl
  have e1:a.tmps.getD 10 undef = .int .i64 n:=hphi 1 _ rfl
  have e2:a.tmps.getD 11 undef = .int .i64 ((n:Int) + 1):=hphi 2 _ rfl
  obtain ⟨u3,e3⟩:∃ u,a.tmps.getD 12 undef = u:=⟨_,rfl⟩
  have e4:a.tmps.getD 13 undef = .slice pa n c:=hphi 4 _ rfl
  have e5:a.tmps.getD 14 undef = .int .i64 n:=hphi 5 _ rfl
  obtain ⟨u6,e6⟩:∃ u,a.tmps.getD 15 undef = u:=⟨_,rfl⟩
  obtain ⟨u7,e7⟩:∃ u,a.tmps.getD 16 undef = u:=⟨_,rfl⟩
  have p8:N7W w n (a.tmps.getD 17 undef) w7:=hphi 8 _ rfl rfl
  obtain ⟨u8,e8⟩:∃ u,a.tmps.getD 17 undef = u:=⟨_,rfl⟩
  rw [e8] at p8
  have ha:=act_of hdf hsz hfr
  simp only [List.take_succ_cons,List.take_zero,List.filterMap_cons,List.filterMap_nil,List.foldl_cons,List.foldl_nil,List.setIfInBounds_toArray,List.set_cons_zero,List.set_cons_succ,e0,e1,e2,e3,e4,e5,e6,e7,e8] at ha
  clear hdf hsz hfr hphi hC e0 e1 e2 e3 e4 e5 e6 e7 e8
  subst ha
  obtain ⟨q,gc,gm,rfl,hq,hb,hqb,hgc,hgcb,hgm,hgmb⟩:=p8
  have HL:=(show Hid (NL w q gc gm n [] (.slice none 0 0) w7) from ⟨hb,hqb,hq,⟨hgc,hgcb⟩,⟨hgm,hgmb⟩,World.ownsRow_nil _ _ _ _,by have:=blk_lt hqb;exact this,fun b hb=>by cases hb⟩)
  clear hb hqb hgcb hgmb hq hgc hgm hn2
  refine ⟨rfl,?_⟩
  unfold Oper.wp
  simp [execOp,go_sem,Act.eval,wpTailG]
  refine ‹∀ (a:Act) (w:World),Code.wp Tryz.prog _ _ a w→_› _ _ ?_
  go_wp2_with fail
  go_loopw [5] (fun vi wr=>∃ (i:Nat) (u:Value),vi = .int .i64 i∧i ≤ n∧Hid (NL w q gc gm n (xs.take i) u wr)) (fun vi _=>n - (intOf vi).toNat)
  case atStart=>exact ⟨0,_,rfl,Nat.zero_le _,HL.out⟩
  case round =>
   clear HL
   obtain ⟨i,u,rfl,hi,HL⟩:=hrel
   by_cases hin:i < n
   ·have hiz:(i:Int) < (n:Int):=by omega
    have hi0:(0:Int) ≤ (i:Int):=by omega
    obtain ⟨x,hx⟩:∃ x,xs[i]? = some x:=⟨_,List.getElem?_eq_getElem (by have:=HA.out.2.2.1;omega)⟩
    obtain ⟨b,o,hpa,hcs⟩:∃ b o,pa = some ⟨b,o,none⟩∧∀ (j:Nat) (x:Int),xs[j]? = some x→w.cell? ⟨b,o + j,none⟩ = some (.int .i64 x):=by
     rcases HA.out.1 with h | h
     ·rw [h] at hx
      cases hx
     ·exact h
    subst hpa
    have HX:Hid (∀ w',Below wr.heap.size wr w'→w'.cell? ⟨b,o + i,none⟩ = some (.int .i64 x)):=fun w' hb=>((HL.out.bel.trans (hb.mono HL.out.bel.size)).cell (p:=⟨b,o + i,none⟩) (World.block_lt_of_cell? _ ⟨b,o + i,none⟩ (hcs i x hx))).trans (hcs i x hx)
    have c0:wr.cell? ⟨b,o + i,none⟩ = some (.int .i64 x):=HX.out wr (Below.refl _ _)
    have hx0:¬ x < 0:=by have:=(HA.out.2.1.2 i x hx).1;omega
    have hx1:¬ x > (i:Int):=by have:=(HA.out.2.1.2 i x hx).2;omega
    have HNt:Hid (xs.take (i + 1) = xs.take i ++ [x]):=by show _ = _;rw [List.take_add_one,hx];rfl
    have HLn:Hid ((xs.take i).length ≤ 15):=by show _ ≤ _;rw [List.length_take];have:=HA.out.2.2;omega
    have hwi:wrap64 ((i:Int) + 1) = (i:Int) + 1:=by have:=HA.out.2.2.2;unfold wrap64;omega
    have HQ:=(show Hid (wr.heap[q]? = _) from HL.out.blk)
    have HRow:=(show Hid (wr.ownsRow w.heap.size 3 1 u (xs.take i).length ((xs.take i).map (Value.int .i64))) from HL.out.row)
    have HWs:Hid (w.heap.size ≤ wr.heap.size):=HL.out.bel.size
    obtain ⟨ys,hys⟩:∃ ys,ys = xs.take i:=⟨_,rfl⟩
    rw [← hys] at HNt HLn HRow HL
    clear hys hx hcs
    go_upto_region 9 with fail
    clear c0
    refine wp_region_growPK 13 10 [0,11,12] (by kernel_rfl) rfl (by kernel_rfl) (by kernel_rfl) (by decide) (by kernel_rfl) (fun a b=>Below a.heap.size a b) (NaP b o i q n c w.heap.size u x wr ys) (fun p w'=>p = false→Below wr.heap.size wr w') NaP.stab (fun _=>below_drew) (fun a b h hR _=>(h rfl).trans (hR.mono (h rfl).size)) ?_ ?_ ?_ ?_ ?_
    ·exact fun _ _ _ _ _ h1 h2=>noGuard (by kernel_rfl) h1 h2
    ·intro j q a w7 hne hq hC hG
     have hC:=hC rfl
     have hj:j < 13:=(List.getElem?_eq_some_iff.1 hq).1
     match j,hj with
     | 0,_=>cases hq;have h4':a.tmps[4]?.getD undef = .pointer (some ⟨q,0,none⟩):=gq (hG.fr 4 (by simp));unfold Oper.wp;simp [go_sem,Act.eval,h4'];exact ⟨_,rfl,Below.refl _ _,rfl⟩
     | 1,_=>cases hq;have h4':a.tmps[4]?.getD undef = .pointer (some ⟨q,0,none⟩):=gq (hG.fr 4 (by simp));unfold Oper.wp;simp [go_sem,Act.eval,h4'];exact ⟨_,rfl,Below.refl _ _,rfl⟩
     | 2,_=>cases hq;have h38':a.tmps[38]?.getD undef = .pointer (some ⟨q,0,none⟩):=gq (hG.dep ⟨1,.data⟩ (by simp) rfl _ rfl);unfold Oper.wp;simp [go_sem,Act.eval,h38'];exact ⟨_,rfl,Below.refl _ _,rfl⟩
     | 3,_=>cases hq;have h39':a.tmps[39]?.getD undef = .pointer (some ⟨q,0,none⟩):=gq (hG.dep ⟨2,.data⟩ (by simp) rfl _ rfl);unfold Oper.wp;simp [go_sem,Act.eval,h39'];exact ⟨_,rfl,Below.refl _ _,rfl⟩
     | 4,_ =>
       cases hq
       have h40':a.tmps[40]?.getD undef = .pointer (some ⟨q,0,none⟩):=gq (hG.dep ⟨3,.data⟩ (by simp) rfl _ rfl)
       have c3:w7.cell? ⟨q,0,none⟩ = some (u):=by rw [cell_blk (below_blk hC HQ.out)];rfl
       unfold Oper.wp
       simp [go_sem,Act.eval,h40',c3]
       exact ⟨_,rfl,Below.refl _ _,rfl⟩
     | 5,_=>cases hq;have h0':a.tmps[0]?.getD undef = .slice (some ⟨b,o,none⟩) n c:=gq (hG.fr 0 (by simp));unfold Oper.wp;simp [go_sem,Act.eval,h0'];exact ⟨_,rfl,Below.refl _ _,rfl⟩
     | 6,_=>cases hq;have h5':a.tmps[5]?.getD undef = .int .i64 i:=gq (hG.fr 5 (by simp));unfold Oper.wp;simp [go_sem,Act.eval,h5'];exact ⟨_,rfl,Below.refl _ _,rfl⟩
     | 7,_=>cases hq;have h42':a.tmps[42]?.getD undef = .slice (some ⟨b,o,none⟩) n c:=gq (hG.dep ⟨5,.data⟩ (by simp) rfl _ rfl);have h43':a.tmps[43]?.getD undef = .int .i64 i:=gq (hG.dep ⟨6,.data⟩ (by simp) rfl _ rfl);unfold Oper.wp;simp [go_sem,Act.eval,h42',h43',hiz,hi0];exact ⟨_,rfl,Below.refl _ _,rfl⟩
     | 8,_ =>
       cases hq
       have h44':a.tmps[44]?.getD undef = .pointer (some ⟨b,o + i,none⟩):=gq (hG.dep ⟨7,.data⟩ (by simp) rfl _ rfl)
       have c3:w7.cell? ⟨b,o + i,none⟩ = some (.int .i64 x):=HX.out w7 hC
       unfold Oper.wp
       simp [go_sem,Act.eval,h44',c3]
       exact ⟨_,rfl,Below.refl _ _,rfl⟩
     | 9,_ =>
       cases hq
       have h45':a.tmps[45]?.getD undef = .int .i64 x:=gq (hG.dep ⟨8,.data⟩ (by simp) rfl _ rfl)
       unfold Oper.wp
       simp [go_sem,Act.eval,h45']
       exact ⟨_,rfl,(Below.refl _ _).alloc (Nat.le_refl _) _,fun _=>⟨_,rfl,blk_new _ _⟩⟩
     | 10,_=>exact absurd rfl hne
     | 11,_=>cases hq;have h37':a.tmps[37]?.getD undef = .pointer (some ⟨q,0,none⟩):=gq (hG.dep ⟨0,.data⟩ (by simp) rfl _ rfl);unfold Oper.wp;simp [go_sem,Act.eval,h37'];exact ⟨_,rfl,Below.refl _ _,rfl⟩
     | 12,_=>cases hq;have h48':a.tmps[48]?.getD undef = .pointer (some ⟨q,0,none⟩):=gq (hG.dep ⟨11,.data⟩ (by simp) rfl _ rfl);unfold Oper.wp;simp [go_sem,Act.eval,h48'];exact ⟨_,rfl,Below.refl _ _,rfl⟩
    ·intro q a w7 hq hC hG
     have hC:=hC rfl
     cases hq
     have h41:a.tmps.getD 41 undef = u:=hG.dep ⟨4,.data⟩ (by simp) rfl _ rfl
     have h41':a.tmps[41]?.getD undef = u:=gq h41
     have p46:(∃ b',(a.tmps.getD 46 undef) = .slice (some ⟨b',0,none⟩) 1 1∧w7.heap[b']? = some (.cells #[.int .i64 x] 3 (0,0))):=hG.dep ⟨9,.data⟩ (by simp) rfl _ rfl rfl
     obtain ⟨b',e46,hb46⟩:=p46
     obtain ⟨iv,hi',hz,i1,i2⟩:=info_parts infoInt
     refine wp_append_at (.tmp 41) (.tmp 46) 64 rfl w.heap.size 3 iv (.int .i64 0) 1 8 Tryz.underlying64 hi' hz i1 i2 rfl (by decide) u ys.length _ h41 (row_on HRow.out hC) ⟨b',0,none⟩ 1 1 [.int .i64 x] e46 rfl (fun jj y hj=>?_) (fun y hy=>?_) (by have:=HLn.out;unfold maxLen;omega) (by have:=HLn.out;omega) (Nat.le_trans HWs.out hC.size) ?_
     ·rw [Addr.add_lit,Nat.zero_add,cell_blk hb46];simpa using hj
     ·rw [List.mem_singleton.1 hy];rfl
     ·intro v' w' r1 r2 r4
      exact ⟨v',rfl,(fun h=>by cases h),fun _=>⟨by simpa using r1,(Keeps.of_below hC).trans (Keeps.of_grown r2 (S:=fun b=>u.ownBlock = some b) fun y hy=>hy) (fun _ _ h=>h) (fun _ _ h=>h),r4.imp id fun h=>⟨_,h,hC.size⟩⟩,fun k y hk h=>NaP.turn k y w7 w' hk h⟩
    ·intro j q a w7 hl hq hC hG
     have hj:j < 13:=(List.getElem?_eq_some_iff.1 hq).1
     match j,hj with
     | 0,_ =>
       cases hq
       have h4':a.tmps[4]?.getD undef = .pointer (some ⟨q,0,none⟩):=gq (hG.fr 4 (by simp))
       refine step_g (R:=fun x y=>y = x) (.pointer (some ⟨q,0,none⟩)) ?_ rfl rfl
       simp [execOp,go_sem,Act.eval,h4']
     | 1,_=>exact absurd hl (by decide)
     | 2,_=>exact absurd hl (by decide)
     | 3,_=>exact absurd hl (by decide)
     | 4,_=>exact absurd hl (by decide)
     | 5,_=>exact absurd hl (by decide)
     | 6,_=>exact absurd hl (by decide)
     | 7,_=>exact absurd hl (by decide)
     | 8,_=>exact absurd hl (by decide)
     | 9,_=>exact absurd hl (by decide)
     | 10,_=>exact absurd hl (by decide)
     | 11,_ =>
       cases hq
       have h37':a.tmps[37]?.getD undef = .pointer (some ⟨q,0,none⟩):=gq (hG.dep ⟨0,.data⟩ (by simp) rfl _ rfl)
       refine step_g (R:=fun x y=>y = x) (.pointer (some ⟨q,0,none⟩)) ?_ rfl rfl
       simp [execOp,go_sem,Act.eval,h37']
     | 12,_ =>
       cases hq
       have h48':a.tmps[48]?.getD undef = .pointer (some ⟨q,0,none⟩):=gq (hG.dep ⟨11,.data⟩ (by simp) rfl _ rfl)
       refine step_g (R:=fun x y=>y = x) (.pointer (some ⟨q,0,none⟩)) ?_ rfl rfl
       simp [execOp,go_sem,Act.eval,h48']
    ·intro a w7 hC hdf hsz hfr hphi
     have e0:a.tmps.getD 37 undef = .pointer (some ⟨q,0,none⟩):=hphi 0 _ rfl
     have e1:a.tmps.getD 38 undef = .pointer (some ⟨q,0,none⟩):=hphi 1 _ rfl
     have e2:a.tmps.getD 39 undef = .pointer (some ⟨q,0,none⟩):=hphi 2 _ rfl
     have e3:a.tmps.getD 40 undef = .pointer (some ⟨q,0,none⟩):=hphi 3 _ rfl
     have e4:a.tmps.getD 41 undef = u:=hphi 4 _ rfl
     have e5:a.tmps.getD 42 undef = .slice (some ⟨b,o,none⟩) n c:=hphi 5 _ rfl
     have e6:a.tmps.getD 43 undef = .int .i64 i:=hphi 6 _ rfl
     have e7:a.tmps.getD 44 undef = .pointer (some ⟨b,o + i,none⟩):=hphi 7 _ rfl
     have e8:a.tmps.getD 45 undef = .int .i64 x:=hphi 8 _ rfl
     obtain ⟨u9,e9⟩:∃ u,a.tmps.getD 46 undef = u:=⟨_,rfl⟩
     have p10:NaQ wr w.heap.size u ys x (a.tmps.getD 47 undef) w7:=hphi 10 _ rfl rfl
     obtain ⟨u10,e10⟩:∃ u,a.tmps.getD 47 undef = u:=⟨_,rfl⟩
     rw [e10] at p10
     have e11:a.tmps.getD 48 undef = .pointer (some ⟨q,0,none⟩):=hphi 11 _ rfl
     have e12:a.tmps.getD 49 undef = .pointer (some ⟨q,0,none⟩):=hphi 12 _ rfl
     have ha:=act_of hdf hsz hfr
     simp only [List.take_succ_cons,List.take_zero,List.filterMap_cons,List.filterMap_nil,List.foldl_cons,List.foldl_nil,List.setIfInBounds_toArray,List.set_cons_zero,List.set_cons_succ,e0,e1,e2,e3,e4,e5,e6,e7,e8,e9,e10,e11,e12] at ha
     clear hdf hsz hfr hphi hC e0 e1 e2 e3 e4 e5 e6 e7 e8 e9 e10 e11 e12
     subst ha
     have HT7:=(show Hid (NL w q gc gm n (xs.take (i + 1)) u10 (w7.setCell ⟨q,0,none⟩ u10)) from by rw [HNt.out];exact HL.out.next p10)
     have hq7:w7.heap[q]? = _:=p10.2.1.none HQ.out (fun e=>(HL.out.apart q e).1 rfl)
     have d0:w7.cell? ⟨q,0,none⟩ = some u:=by rw [cell_blk hq7];rfl
     have f0:=frozen_blk hq7 0
     obtain ⟨p8,n8,c8,hu8⟩:∃ p n c,u10 = .slice p n c:=by
      obtain ⟨h1,⟨h2,-⟩ | ⟨g',cap,cur,h2,-⟩⟩:=p10.1
      ·exact ⟨_,_,_,h2⟩
      ·exact ⟨_,_,_,h2⟩
     subst hu8
     clear p10 hq7 HQ HRow HX HL
     refine ⟨rfl,?_⟩
     unfold Oper.wp
     simp [execOp,go_sem,Act.eval,wpTailG,d0,f0]
     refine ‹∀ (a:Act) (w:World),Code.wp Tryz.prog _ _ a w→_› _ _ ?_
     clear d0 f0
     revert HT7
     generalize World.setCell _ _ _ = w8
     intro HT7
     go_wp2_with fail
     go_roundw
     case rel=>exact ⟨i + 1,_,by go_num,by omega,HT7.out⟩
     case measure=>simp [intOf];omega
   ·have hiz:¬ (i:Int) < (n:Int):=by omega
    obtain rfl:i = n:=by omega
    have hkk:¬ (i:Int) < (i:Int):=by omega
    have HF:Hid (∃ G,IsR wr q (WM.new xs) G∧(∀ b,G b→w.heap.size ≤ b)∧Below w.heap.size w wr):=by
     have h:=HL.out
     have hlt:xs.length < 16:=HA.out.2.1.1
     rw [HA.out.2.2.1,List.take_length] at h
     exact ⟨_,h.isR hlt,fun b hb=>hb.1,h.bel⟩
    go_wp2_with fail
    go_returns
    obtain ⟨G,h1,h2,h3⟩:=HF.out
    exact ⟨q,rfl,G,h1,h2,h3⟩
end Go.Proofs.YthaliljaglldjaaGreat
/- The document's SameWhat and Same at what is zero: yes. -/
namespace Go.Proofs.YthaliljaglldjaaGreat
open Go.RowKit Go.ChangeMaps Go.MapKept
set_option maxRecDepth 8000 in
theorem sameCode07_nil (w:World):Calls Tryz.prog 205 #[.slice none 0 0,.slice none 0 0] w fun e w'=>e = .returned (.bool true)∧Below w.heap.size w w':=by
 go_enter Tryz.func205,Tryz.ntmps205
 go_wp2_with fail
 go_loopw [5] (fun vi wr=>vi = .int .i64 0∧wr = w) (fun _ _=>0)
 case atStart=>exact ⟨rfl,rfl⟩
 case round =>
  obtain ⟨rfl,rfl⟩:=hrel
  go_wp2_with fail
  go_ret
  exact ⟨rfl,Below.refl _ _⟩
end Go.Proofs.YthaliljaglldjaaGreat
/- posternref07's SameWhat and Same at alike things, alike worlds: yes. -/
namespace Go.Proofs.YthaliljaglldjaaGreat
open Go.RowKit Go.ChangeMaps Go.MapKept
theorem same4_yes {w:World} {F1 F2:Nat→Prop} {v:Val} (h:v.wf) {r1 r2:Value} (h1:SlAt w F1 r1 v.l) (h2:SlAt w F2 r2 v.l):Calls Tryz.prog 178 #[.agg (vcs v r1),.agg (vcs v r2)] w fun e w'=>e = .returned (.bool true)∧Below w.heap.size w w':=by
 refine (same4_G v h v r1 r2 w F1 F2 h1 h2).mono ?_
 rintro e w' ⟨B,rfl,hB,hb⟩
 rw [hB.2 rfl]
 exact ⟨rfl,hb⟩
theorem execOp_ldSwP20 (ρ:Operand→Value) (ty:TypeId) (pos:String) (af:Array Edge) (g:Option (Nat × Bool)) :
 execOp ρ { dst:=some 20,op:=.load 27 (.tmp 19),type:=ty,pos:=pos,after:=af,guard:=g } = ldV (ρ (.tmp 19)):=rfl
theorem execOp_ldSwP22 (ρ:Operand→Value) (ty:TypeId) (pos:String) (af:Array Edge) (g:Option (Nat × Bool)) :
 execOp ρ { dst:=some 22,op:=.load 27 (.tmp 21),type:=ty,pos:=pos,after:=af,guard:=g } = ldV (ρ (.tmp 21)):=rfl
def SwP (B0:Nat) (k h vk vn vr n lo tg bi s:Int) (vstr:ByteArray) (fu:Bool) (rc rl rg r7:Value) (j:Nat) (v:Value) (_:World):Prop :=
 match j with
 | 0=>v = .pointer (some ⟨B0,0,none⟩)
 | 1=>v = .int .u8 k
 | 2=>v = .pointer (some ⟨B0 + 1,0,none⟩)
 | 3=>v = .int .u8 k
 | 4=>v = .bool false
 | 5=>v = .bool false
 | 6=>v = .pointer (some ⟨B0,1,none⟩)
 | 7=>v = .int .i64 h
 | 8=>v = .pointer (some ⟨B0 + 1,1,none⟩)
 | 9=>v = .int .i64 h
 | 10=>v = .bool false
 | 11=>v = .bool false
 | 12=>v = .bool false
 | 13=>v = .pointer (some ⟨B0,2,none⟩)
 | 14=>v = .agg #[.int .u8 vk,.int .i64 vn,.string vstr,rc,.int .i64 vr]
 | 15=>v = .pointer (some ⟨B0 + 1,2,none⟩)
 | 16=>v = .agg #[.int .u8 vk,.int .i64 vn,.string vstr,rl,.int .i64 vr]
 | 17=>v = .bool true
 | 18=>v = .bool false
 | 19=>v = .bool false
 | 20=>v = .bool false
 | 21=>v = .pointer (some ⟨B0,7,none⟩)
 | 22=>v = rg
 | 23=>v = .agg #[.int .u8 3,.int .i64 0,.string ⟨#[]⟩,rg,.int .i64 0]
 | 24=>v = .pointer (some ⟨B0 + 1,7,none⟩)
 | 25=>v = r7
 | 26=>v = .agg #[.int .u8 3,.int .i64 0,.string ⟨#[]⟩,r7,.int .i64 0]
 | 27=>v = .bool true
 | 28=>v = .bool false
 | 29=>v = .bool false
 | 30=>v = .bool false
 | 31=>v = .pointer (some ⟨B0,8,none⟩)
 | 32=>v = .int .i64 n
 | 33=>v = .pointer (some ⟨B0 + 1,8,none⟩)
 | 34=>v = .int .i64 n
 | 35=>v = .bool false
 | 36=>v = .bool false
 | 37=>v = .bool false
 | 38=>v = .pointer (some ⟨B0,9,none⟩)
 | 39=>v = .int .i64 lo
 | 40=>v = .pointer (some ⟨B0 + 1,9,none⟩)
 | 41=>v = .int .i64 lo
 | 42=>v = .bool false
 | 43=>v = .bool false
 | 44=>v = .bool false
 | 45=>v = .pointer (some ⟨B0,10,none⟩)
 | 46=>v = .int .i64 tg
 | 47=>v = .pointer (some ⟨B0 + 1,10,none⟩)
 | 48=>v = .int .i64 tg
 | 49=>v = .bool false
 | 50=>v = .bool false
 | 51=>v = .bool false
 | 52=>v = .pointer (some ⟨B0,11,none⟩)
 | 53=>v = .int .i64 bi
 | 54=>v = .pointer (some ⟨B0 + 1,11,none⟩)
 | 55=>v = .int .i64 bi
 | 56=>v = .bool false
 | 57=>v = .bool false
 | 58=>v = .bool false
 | 59=>v = .pointer (some ⟨B0,12,none⟩)
 | 60=>v = .int .u8 s
 | 61=>v = .pointer (some ⟨B0 + 1,12,none⟩)
 | 62=>v = .int .u8 s
 | 63=>v = .bool false
 | 64=>v = .bool false
 | 65=>v = .bool false
 | 66=>v = .pointer (some ⟨B0,13,none⟩)
 | 67=>v = .bool fu
 | 68=>v = .pointer (some ⟨B0 + 1,13,none⟩)
 | 69=>v = .bool fu
 | 70=>v = .bool false
 | 71=>v = .bool false
 | 72=>v = .bool false
 | 73=>v = .pointer (some ⟨B0,15,none⟩)
 | 74=>v = .slice none 0 0
 | 75=>v = .int .i64 0
 | 76=>v = .pointer (some ⟨B0 + 1,15,none⟩)
 | 77=>v = .slice none 0 0
 | 78=>v = .int .i64 0
 | 79=>v = .bool false
 | _=>True
set_option maxHeartbeats 20000000 in
set_option maxRecDepth 20000 in
theorem sameWhat7_W {w:World} {F1 F2:Nat→Prop} (t:Th) (vl2 vals2:Value) (h1:SlAt w F1 t.vl t.v.l) (h2:SlAt w F1 t.vals t.vs) (h3:SlAt w F2 vl2 t.v.l) (h4:SlAt w F2 vals2 t.vs) (hwf:t.v.wf) (hwfs:(listV t.vs).wf) (hc:t.code = .slice none 0 0) (hn:t.names = .slice none 0 0) :
 Calls Tryz.prog 110 #[.agg (thc t),.agg (thc { t with vl:=vl2,vals:=vals2 })] w fun e w'=>e = .returned (.bool true)∧Below w.heap.size w w':=by
 have HS1:Hid (∀ w',Below w.heap.size w w'→Calls Tryz.prog 178 #[.agg (vcs t.v t.vl),.agg (vcs t.v vl2)] w' fun e w''=>e = .returned (.bool true)∧Below w'.heap.size w' w''):=fun w' hb=>same4_yes hwf (h1.on hb) (h3.on hb)
 have HS2:Hid (∀ w',Below w.heap.size w w'→Calls Tryz.prog 178 #[.agg (vcs (listV t.vs) t.vals),.agg (vcs (listV t.vs) vals2)] w' fun e w''=>e = .returned (.bool true)∧Below w'.heap.size w' w''):=fun w' hb=>same4_yes hwfs (h2.on hb) (h4.on hb)
 obtain ⟨k,h,⟨vk,vn,vstr,vl,vr⟩,raw,vs,vals,n,lo,tg,bi,s,fu,code,names⟩:=t
 obtain ⟨pv,cv,hv⟩:=h1.form
 obtain ⟨ps,cs,hvals⟩:=h2.form
 obtain ⟨pv2,cv2,hv2⟩:=h3.form
 obtain ⟨ps2,cs2,hvals2⟩:=h4.form
 simp only at hv hvals hc hn hv2 hvals2
 subst hv hvals hc hn hv2 hvals2
 simp only [vcs,listV,thc] at HS1 HS2 ⊢
 clear h1 h2 h3 h4 hwf hwfs
 have HT:Hid (∀ w2,w2 = ((w.alloc (.cells #[.int .u8 k,.int .i64 h,.int .u8 vk,.int .i64 vn,.string vstr,.slice pv vl.length cv,.int .i64 vr,.slice ps vs.length cs,.int .i64 n,.int .i64 lo,.int .i64 tg,.int .i64 bi,.int .u8 s,.bool fu,.slice none 0 0,.slice none 0 0] 46)).alloc (.cells #[.int .u8 k,.int .i64 h,.int .u8 vk,.int .i64 vn,.string vstr,.slice pv2 vl.length cv2,.int .i64 vr,.slice ps2 vs.length cs2,.int .i64 n,.int .i64 lo,.int .i64 tg,.int .i64 bi,.int .u8 s,.bool fu,.slice none 0 0,.slice none 0 0] 46))→Below w.heap.size w w2 ∧
  w2.heap[w.heap.size]? = some (.cells #[.int .u8 k,.int .i64 h,.int .u8 vk,.int .i64 vn,.string vstr,.slice pv vl.length cv,.int .i64 vr,.slice ps vs.length cs,.int .i64 n,.int .i64 lo,.int .i64 tg,.int .i64 bi,.int .u8 s,.bool fu,.slice none 0 0,.slice none 0 0] 46 (0,0)) ∧
  w2.heap[w.heap.size + 1]? = some (.cells #[.int .u8 k,.int .i64 h,.int .u8 vk,.int .i64 vn,.string vstr,.slice pv2 vl.length cv2,.int .i64 vr,.slice ps2 vs.length cs2,.int .i64 n,.int .i64 lo,.int .i64 tg,.int .i64 bi,.int .u8 s,.bool fu,.slice none 0 0,.slice none 0 0] 46 (0,0))):=fun w2 e=>by
  subst e
  exact ⟨((Below.refl _ w).alloc (Nat.le_refl _) _).alloc (by simp) _,blk2_old w _ _,blk2_new w _ _⟩
 go_enter Tryz.func110,Tryz.ntmps110
 go_upto_region 1 with fail
 revert HT
 generalize ((w.alloc _).alloc _) = w2
 intro HT
 have HT:=(show Hid (_∧_∧_) from HT.out w2 rfl)
 have HB2:=(show Hid (∀ w',Below w2.heap.size w2 w'→Below w.heap.size w w') from fun w' hb=>HT.out.1.trans (hb.mono HT.out.1.size))
 obtain ⟨B0,hB0⟩:∃ B0,B0 = w.heap.size:=⟨_,rfl⟩
 have HBx:=HT.out.2
 rw [← hB0] at HBx ⊢
 have HBx:=(show Hid (_∧_) from HBx)
 clear hB0
 refine wp_region_growK 80 (by kernel_rfl) rfl (by kernel_rfl) (by kernel_rfl) (fun a b=>Below a.heap.size a b) (SwP B0 k h vk vn vr n lo tg bi s vstr fu (.slice pv vl.length cv) (.slice pv2 vl.length cv2) (.slice ps vs.length cs) (.slice ps2 vs.length cs2)) (fun w'=>Below w2.heap.size w2 w') (fun j v w w' _ h=>h) below_drew (fun a b h hR=>h.trans (hR.mono h.size)) ?_ ?_ ?_
 ·intro j q g b hq hgd
  have hj:j < 80:=(List.getElem?_eq_some_iff.1 hq).1
  match j,hj with
  | 0,_=>cases hq;cases hgd
  | 1,_=>cases hq;cases hgd
  | 2,_=>cases hq;cases hgd
  | 3,_=>cases hq;cases hgd
  | 4,_=>cases hq;cases hgd
  | 5,_=>cases hq;cases hgd
  | 6,_=>cases hq;cases hgd;exact fun v w h=>h
  | 7,_=>cases hq;cases hgd;exact fun v w h=>h
  | 8,_=>cases hq;cases hgd;exact fun v w h=>h
  | 9,_=>cases hq;cases hgd;exact fun v w h=>h
  | 10,_=>cases hq;cases hgd;exact fun v w h=>h
  | 11,_=>cases hq;cases hgd
  | 12,_=>cases hq;cases hgd
  | 13,_=>cases hq;cases hgd;exact fun v w h=>h
  | 14,_=>cases hq;cases hgd;exact fun v w h=>h
  | 15,_=>cases hq;cases hgd;exact fun v w h=>h
  | 16,_=>cases hq;cases hgd;exact fun v w h=>h
  | 17,_=>cases hq;cases hgd;exact fun v w h=>h
  | 18,_=>cases hq;cases hgd;exact fun v w h=>h
  | 19,_=>cases hq;cases hgd
  | 20,_=>cases hq;cases hgd
  | 21,_=>cases hq;cases hgd;exact fun v w h=>h
  | 22,_=>cases hq;cases hgd;exact fun v w h=>h
  | 23,_=>cases hq;cases hgd;exact fun v w h=>h
  | 24,_=>cases hq;cases hgd;exact fun v w h=>h
  | 25,_=>cases hq;cases hgd;exact fun v w h=>h
  | 26,_=>cases hq;cases hgd;exact fun v w h=>h
  | 27,_=>cases hq;cases hgd;exact fun v w h=>h
  | 28,_=>cases hq;cases hgd;exact fun v w h=>h
  | 29,_=>cases hq;cases hgd
  | 30,_=>cases hq;cases hgd
  | 31,_=>cases hq;cases hgd;exact fun v w h=>h
  | 32,_=>cases hq;cases hgd;exact fun v w h=>h
  | 33,_=>cases hq;cases hgd;exact fun v w h=>h
  | 34,_=>cases hq;cases hgd;exact fun v w h=>h
  | 35,_=>cases hq;cases hgd;exact fun v w h=>h
  | 36,_=>cases hq;cases hgd
  | 37,_=>cases hq;cases hgd
  | 38,_=>cases hq;cases hgd;exact fun v w h=>h
  | 39,_=>cases hq;cases hgd;exact fun v w h=>h
  | 40,_=>cases hq;cases hgd;exact fun v w h=>h
  | 41,_=>cases hq;cases hgd;exact fun v w h=>h
  | 42,_=>cases hq;cases hgd;exact fun v w h=>h
  | 43,_=>cases hq;cases hgd
  | 44,_=>cases hq;cases hgd
  | 45,_=>cases hq;cases hgd;exact fun v w h=>h
  | 46,_=>cases hq;cases hgd;exact fun v w h=>h
  | 47,_=>cases hq;cases hgd;exact fun v w h=>h
  | 48,_=>cases hq;cases hgd;exact fun v w h=>h
  | 49,_=>cases hq;cases hgd;exact fun v w h=>h
  | 50,_=>cases hq;cases hgd
  | 51,_=>cases hq;cases hgd
  | 52,_=>cases hq;cases hgd;exact fun v w h=>h
  | 53,_=>cases hq;cases hgd;exact fun v w h=>h
  | 54,_=>cases hq;cases hgd;exact fun v w h=>h
  | 55,_=>cases hq;cases hgd;exact fun v w h=>h
  | 56,_=>cases hq;cases hgd;exact fun v w h=>h
  | 57,_=>cases hq;cases hgd
  | 58,_=>cases hq;cases hgd
  | 59,_=>cases hq;cases hgd;exact fun v w h=>h
  | 60,_=>cases hq;cases hgd;exact fun v w h=>h
  | 61,_=>cases hq;cases hgd;exact fun v w h=>h
  | 62,_=>cases hq;cases hgd;exact fun v w h=>h
  | 63,_=>cases hq;cases hgd;exact fun v w h=>h
  | 64,_=>cases hq;cases hgd
  | 65,_=>cases hq;cases hgd
  | 66,_=>cases hq;cases hgd;exact fun v w h=>h
  | 67,_=>cases hq;cases hgd;exact fun v w h=>h
  | 68,_=>cases hq;cases hgd;exact fun v w h=>h
  | 69,_=>cases hq;cases hgd;exact fun v w h=>h
  | 70,_=>cases hq;cases hgd;exact fun v w h=>h
  | 71,_=>cases hq;cases hgd
  | 72,_=>cases hq;cases hgd
  | 73,_=>cases hq;cases hgd;exact fun v w h=>h
  | 74,_=>cases hq;cases hgd;exact fun v w h=>h
  | 75,_=>cases hq;cases hgd;exact fun v w h=>h
  | 76,_=>cases hq;cases hgd;exact fun v w h=>h
  | 77,_=>cases hq;cases hgd;exact fun v w h=>h
  | 78,_=>cases hq;cases hgd;exact fun v w h=>h
  | 79,_=>cases hq;cases hgd;exact fun v w h=>h
 ·intro j q a w7 hq hC hG
  have hj:j < 80:=(List.getElem?_eq_some_iff.1 hq).1
  match j,hj with
  | 0,_=>cases hq;have h2':a.tmps[2]?.getD undef = .pointer (some ⟨B0,0,none⟩):=gq (hG.fr 2 (by simp));unfold Oper.wp;simp [go_sem,Act.eval,h2'];exact ⟨_,rfl,Below.refl _ _,rfl⟩
  | 1,_ =>
    cases hq
    have h6':a.tmps[6]?.getD undef = .pointer (some ⟨B0,0,none⟩):=gq (hG.dep ⟨0,.data⟩ (by simp) rfl _ rfl)
    have c3:w7.cell? ⟨B0,0,none⟩ = some (.int .u8 k):=by rw [cell_blk (below_blk hC HBx.out.1)];rfl
    unfold Oper.wp
    simp [go_sem,Act.eval,h6',c3]
    exact ⟨_,rfl,Below.refl _ _,rfl⟩
  | 2,_=>cases hq;have h3':a.tmps[3]?.getD undef = .pointer (some ⟨B0 + 1,0,none⟩):=gq (hG.fr 3 (by simp));unfold Oper.wp;simp [go_sem,Act.eval,h3'];exact ⟨_,rfl,Below.refl _ _,rfl⟩
  | 3,_ =>
    cases hq
    have h8':a.tmps[8]?.getD undef = .pointer (some ⟨B0 + 1,0,none⟩):=gq (hG.dep ⟨2,.data⟩ (by simp) rfl _ rfl)
    have c3:w7.cell? ⟨B0 + 1,0,none⟩ = some (.int .u8 k):=by rw [cell_blk (below_blk hC HBx.out.2)];rfl
    unfold Oper.wp
    simp [go_sem,Act.eval,h8',c3]
    exact ⟨_,rfl,Below.refl _ _,rfl⟩
  | 4,_=>cases hq;have h7':a.tmps[7]?.getD undef = .int .u8 k:=gq (hG.dep ⟨1,.data⟩ (by simp) rfl _ rfl);have h9':a.tmps[9]?.getD undef = .int .u8 k:=gq (hG.dep ⟨3,.data⟩ (by simp) rfl _ rfl);unfold Oper.wp;simp [go_sem,Act.eval,h7',h9'];exact ⟨_,rfl,Below.refl _ _,rfl⟩
  | 5,_=>cases hq;have h10':a.tmps[10]?.getD undef = .bool false:=gq (hG.dep ⟨4,.data⟩ (by simp) rfl _ rfl);unfold Oper.wp;simp [go_sem,Act.eval,h10'];exact ⟨_,rfl,Below.refl _ _,rfl⟩
  | 6,_=>cases hq;have h2':a.tmps[2]?.getD undef = .pointer (some ⟨B0,0,none⟩):=gq (hG.fr 2 (by simp));unfold Oper.wp;simp [go_sem,Act.eval,h2'];exact ⟨_,rfl,Below.refl _ _,rfl⟩
  | 7,_ =>
    cases hq
    have h12':a.tmps[12]?.getD undef = .pointer (some ⟨B0,1,none⟩):=gq (hG.dep ⟨6,.data⟩ (by simp) rfl _ rfl)
    have c3:w7.cell? ⟨B0,1,none⟩ = some (.int .i64 h):=by rw [cell_blk (below_blk hC HBx.out.1)];rfl
    unfold Oper.wp
    simp [go_sem,Act.eval,h12',c3]
    exact ⟨_,rfl,Below.refl _ _,rfl⟩
  | 8,_=>cases hq;have h3':a.tmps[3]?.getD undef = .pointer (some ⟨B0 + 1,0,none⟩):=gq (hG.fr 3 (by simp));unfold Oper.wp;simp [go_sem,Act.eval,h3'];exact ⟨_,rfl,Below.refl _ _,rfl⟩
  | 9,_ =>
    cases hq
    have h14':a.tmps[14]?.getD undef = .pointer (some ⟨B0 + 1,1,none⟩):=gq (hG.dep ⟨8,.data⟩ (by simp) rfl _ rfl)
    have c3:w7.cell? ⟨B0 + 1,1,none⟩ = some (.int .i64 h):=by rw [cell_blk (below_blk hC HBx.out.2)];rfl
    unfold Oper.wp
    simp [go_sem,Act.eval,h14',c3]
    exact ⟨_,rfl,Below.refl _ _,rfl⟩
  | 10,_=>cases hq;have h13':a.tmps[13]?.getD undef = .int .i64 h:=gq (hG.dep ⟨7,.data⟩ (by simp) rfl _ rfl);have h15':a.tmps[15]?.getD undef = .int .i64 h:=gq (hG.dep ⟨9,.data⟩ (by simp) rfl _ rfl);unfold Oper.wp;simp [go_sem,Act.eval,h13',h15'];exact ⟨_,rfl,Below.refl _ _,rfl⟩
  | 11,_=>cases hq;have h11':a.tmps[11]?.getD undef = .bool false:=gq (hG.dep ⟨5,.data⟩ (by simp) rfl _ rfl);have h16':a.tmps[16]?.getD undef = .bool false:=gq (hG.dep ⟨10,.data⟩ (by simp) rfl _ rfl);unfold Oper.wp;simp [go_sem,Act.eval,h11',h16'];exact ⟨_,rfl,Below.refl _ _,rfl⟩
  | 12,_=>cases hq;have h17':a.tmps[17]?.getD undef = .bool false:=gq (hG.dep ⟨11,.data⟩ (by simp) rfl _ rfl);unfold Oper.wp;simp [go_sem,Act.eval,h17'];exact ⟨_,rfl,Below.refl _ _,rfl⟩
  | 13,_=>cases hq;have h2':a.tmps[2]?.getD undef = .pointer (some ⟨B0,0,none⟩):=gq (hG.fr 2 (by simp));unfold Oper.wp;simp [go_sem,Act.eval,h2'];exact ⟨_,rfl,Below.refl _ _,rfl⟩
  | 14,_ =>
    cases hq
    have h19:a.tmps.getD 19 undef = .pointer (some ⟨B0,2,none⟩):=hG.dep ⟨13,.data⟩ (by simp) rfl _ rfl
    refine step_g (.agg #[.int .u8 vk,.int .i64 vn,.string vstr,(.slice pv vl.length cv),.int .i64 vr]) ?_ (Below.refl _ _) rfl
    rw [execOp_ldSwP20]
    show (ldV (a.tmps.getD 19 undef)).run _ _ = _
    rw [h19]
    exact ld_what_v (t:=⟨k,h,⟨vk,vn,vstr,vl,vr⟩,(.slice pv vl.length cv),vs,(.slice ps vs.length cs),n,lo,tg,bi,s,fu,.slice none 0 0,.slice none 0 0⟩) (below_blk hC HBx.out.1)
  | 15,_=>cases hq;have h3':a.tmps[3]?.getD undef = .pointer (some ⟨B0 + 1,0,none⟩):=gq (hG.fr 3 (by simp));unfold Oper.wp;simp [go_sem,Act.eval,h3'];exact ⟨_,rfl,Below.refl _ _,rfl⟩
  | 16,_ =>
    cases hq
    have h21:a.tmps.getD 21 undef = .pointer (some ⟨B0 + 1,2,none⟩):=hG.dep ⟨15,.data⟩ (by simp) rfl _ rfl
    refine step_g (.agg #[.int .u8 vk,.int .i64 vn,.string vstr,(.slice pv2 vl.length cv2),.int .i64 vr]) ?_ (Below.refl _ _) rfl
    rw [execOp_ldSwP22]
    show (ldV (a.tmps.getD 21 undef)).run _ _ = _
    rw [h21]
    exact ld_what_v (t:=⟨k,h,⟨vk,vn,vstr,vl,vr⟩,(.slice pv2 vl.length cv2),vs,(.slice ps2 vs.length cs2),n,lo,tg,bi,s,fu,.slice none 0 0,.slice none 0 0⟩) (below_blk hC HBx.out.2)
  | 17,_ =>
    cases hq
    have h20':a.tmps[20]?.getD undef = .agg #[.int .u8 vk,.int .i64 vn,.string vstr,(.slice pv vl.length cv),.int .i64 vr]:=gq (hG.dep ⟨14,.data⟩ (by simp) rfl _ rfl)
    have h22':a.tmps[22]?.getD undef = .agg #[.int .u8 vk,.int .i64 vn,.string vstr,(.slice pv2 vl.length cv2),.int .i64 vr]:=gq (hG.dep ⟨16,.data⟩ (by simp) rfl _ rfl)
    unfold Oper.wp
    simp [go_sem,callFunc,Act.eval,Tryz.func178,h20',h22']
    refine Calls.mono (HS1.out w7 (HB2.out w7 hC)) ?_
    rintro e w8 ⟨rfl,hb8⟩
    exact ⟨_,rfl,hb8,rfl⟩
  | 18,_=>cases hq;have h23':a.tmps[23]?.getD undef = .bool true:=gq (hG.dep ⟨17,.data⟩ (by simp) rfl _ rfl);unfold Oper.wp;simp [go_sem,Act.eval,h23'];exact ⟨_,rfl,Below.refl _ _,rfl⟩
  | 19,_=>cases hq;have h18':a.tmps[18]?.getD undef = .bool false:=gq (hG.dep ⟨12,.data⟩ (by simp) rfl _ rfl);have h24':a.tmps[24]?.getD undef = .bool false:=gq (hG.dep ⟨18,.data⟩ (by simp) rfl _ rfl);unfold Oper.wp;simp [go_sem,Act.eval,h18',h24'];exact ⟨_,rfl,Below.refl _ _,rfl⟩
  | 20,_=>cases hq;have h25':a.tmps[25]?.getD undef = .bool false:=gq (hG.dep ⟨19,.data⟩ (by simp) rfl _ rfl);unfold Oper.wp;simp [go_sem,Act.eval,h25'];exact ⟨_,rfl,Below.refl _ _,rfl⟩
  | 21,_=>cases hq;have h2':a.tmps[2]?.getD undef = .pointer (some ⟨B0,0,none⟩):=gq (hG.fr 2 (by simp));unfold Oper.wp;simp [go_sem,Act.eval,h2'];exact ⟨_,rfl,Below.refl _ _,rfl⟩
  | 22,_ =>
    cases hq
    have h27':a.tmps[27]?.getD undef = .pointer (some ⟨B0,7,none⟩):=gq (hG.dep ⟨21,.data⟩ (by simp) rfl _ rfl)
    have c3:w7.cell? ⟨B0,7,none⟩ = some ((.slice ps vs.length cs)):=by rw [cell_blk (below_blk hC HBx.out.1)];rfl
    unfold Oper.wp
    simp [go_sem,Act.eval,h27',c3]
    exact ⟨_,rfl,Below.refl _ _,rfl⟩
  | 23,_ =>
    cases hq
    have h28':a.tmps[28]?.getD undef = (.slice ps vs.length cs):=gq (hG.dep ⟨22,.data⟩ (by simp) rfl _ rfl)
    unfold Oper.wp
    simp [go_sem,callFunc,Act.eval,Tryz.func175,h28']
    refine Calls.mono (list7_W w7 _ _ _) ?_
    rintro e w8 ⟨rfl,hb8⟩
    exact ⟨_,rfl,hb8,rfl⟩
  | 24,_=>cases hq;have h3':a.tmps[3]?.getD undef = .pointer (some ⟨B0 + 1,0,none⟩):=gq (hG.fr 3 (by simp));unfold Oper.wp;simp [go_sem,Act.eval,h3'];exact ⟨_,rfl,Below.refl _ _,rfl⟩
  | 25,_ =>
    cases hq
    have h30':a.tmps[30]?.getD undef = .pointer (some ⟨B0 + 1,7,none⟩):=gq (hG.dep ⟨24,.data⟩ (by simp) rfl _ rfl)
    have c3:w7.cell? ⟨B0 + 1,7,none⟩ = some ((.slice ps2 vs.length cs2)):=by rw [cell_blk (below_blk hC HBx.out.2)];rfl
    unfold Oper.wp
    simp [go_sem,Act.eval,h30',c3]
    exact ⟨_,rfl,Below.refl _ _,rfl⟩
  | 26,_ =>
    cases hq
    have h31':a.tmps[31]?.getD undef = (.slice ps2 vs.length cs2):=gq (hG.dep ⟨25,.data⟩ (by simp) rfl _ rfl)
    unfold Oper.wp
    simp [go_sem,callFunc,Act.eval,Tryz.func175,h31']
    refine Calls.mono (list7_W w7 _ _ _) ?_
    rintro e w8 ⟨rfl,hb8⟩
    exact ⟨_,rfl,hb8,rfl⟩
  | 27,_ =>
    cases hq
    have h29':a.tmps[29]?.getD undef = .agg #[.int .u8 3,.int .i64 0,.string ⟨#[]⟩,(.slice ps vs.length cs),.int .i64 0]:=gq (hG.dep ⟨23,.data⟩ (by simp) rfl _ rfl)
    have h32':a.tmps[32]?.getD undef = .agg #[.int .u8 3,.int .i64 0,.string ⟨#[]⟩,(.slice ps2 vs.length cs2),.int .i64 0]:=gq (hG.dep ⟨26,.data⟩ (by simp) rfl _ rfl)
    unfold Oper.wp
    simp [go_sem,callFunc,Act.eval,Tryz.func178,h29',h32']
    refine Calls.mono (HS2.out w7 (HB2.out w7 hC)) ?_
    rintro e w8 ⟨rfl,hb8⟩
    exact ⟨_,rfl,hb8,rfl⟩
  | 28,_=>cases hq;have h33':a.tmps[33]?.getD undef = .bool true:=gq (hG.dep ⟨27,.data⟩ (by simp) rfl _ rfl);unfold Oper.wp;simp [go_sem,Act.eval,h33'];exact ⟨_,rfl,Below.refl _ _,rfl⟩
  | 29,_=>cases hq;have h26':a.tmps[26]?.getD undef = .bool false:=gq (hG.dep ⟨20,.data⟩ (by simp) rfl _ rfl);have h34':a.tmps[34]?.getD undef = .bool false:=gq (hG.dep ⟨28,.data⟩ (by simp) rfl _ rfl);unfold Oper.wp;simp [go_sem,Act.eval,h26',h34'];exact ⟨_,rfl,Below.refl _ _,rfl⟩
  | 30,_=>cases hq;have h35':a.tmps[35]?.getD undef = .bool false:=gq (hG.dep ⟨29,.data⟩ (by simp) rfl _ rfl);unfold Oper.wp;simp [go_sem,Act.eval,h35'];exact ⟨_,rfl,Below.refl _ _,rfl⟩
  | 31,_=>cases hq;have h2':a.tmps[2]?.getD undef = .pointer (some ⟨B0,0,none⟩):=gq (hG.fr 2 (by simp));unfold Oper.wp;simp [go_sem,Act.eval,h2'];exact ⟨_,rfl,Below.refl _ _,rfl⟩
  | 32,_ =>
    cases hq
    have h37':a.tmps[37]?.getD undef = .pointer (some ⟨B0,8,none⟩):=gq (hG.dep ⟨31,.data⟩ (by simp) rfl _ rfl)
    have c3:w7.cell? ⟨B0,8,none⟩ = some (.int .i64 n):=by rw [cell_blk (below_blk hC HBx.out.1)];rfl
    unfold Oper.wp
    simp [go_sem,Act.eval,h37',c3]
    exact ⟨_,rfl,Below.refl _ _,rfl⟩
  | 33,_=>cases hq;have h3':a.tmps[3]?.getD undef = .pointer (some ⟨B0 + 1,0,none⟩):=gq (hG.fr 3 (by simp));unfold Oper.wp;simp [go_sem,Act.eval,h3'];exact ⟨_,rfl,Below.refl _ _,rfl⟩
  | 34,_ =>
    cases hq
    have h39':a.tmps[39]?.getD undef = .pointer (some ⟨B0 + 1,8,none⟩):=gq (hG.dep ⟨33,.data⟩ (by simp) rfl _ rfl)
    have c3:w7.cell? ⟨B0 + 1,8,none⟩ = some (.int .i64 n):=by rw [cell_blk (below_blk hC HBx.out.2)];rfl
    unfold Oper.wp
    simp [go_sem,Act.eval,h39',c3]
    exact ⟨_,rfl,Below.refl _ _,rfl⟩
  | 35,_=>cases hq;have h38':a.tmps[38]?.getD undef = .int .i64 n:=gq (hG.dep ⟨32,.data⟩ (by simp) rfl _ rfl);have h40':a.tmps[40]?.getD undef = .int .i64 n:=gq (hG.dep ⟨34,.data⟩ (by simp) rfl _ rfl);unfold Oper.wp;simp [go_sem,Act.eval,h38',h40'];exact ⟨_,rfl,Below.refl _ _,rfl⟩
  | 36,_=>cases hq;have h36':a.tmps[36]?.getD undef = .bool false:=gq (hG.dep ⟨30,.data⟩ (by simp) rfl _ rfl);have h41':a.tmps[41]?.getD undef = .bool false:=gq (hG.dep ⟨35,.data⟩ (by simp) rfl _ rfl);unfold Oper.wp;simp [go_sem,Act.eval,h36',h41'];exact ⟨_,rfl,Below.refl _ _,rfl⟩
  | 37,_=>cases hq;have h42':a.tmps[42]?.getD undef = .bool false:=gq (hG.dep ⟨36,.data⟩ (by simp) rfl _ rfl);unfold Oper.wp;simp [go_sem,Act.eval,h42'];exact ⟨_,rfl,Below.refl _ _,rfl⟩
  | 38,_=>cases hq;have h2':a.tmps[2]?.getD undef = .pointer (some ⟨B0,0,none⟩):=gq (hG.fr 2 (by simp));unfold Oper.wp;simp [go_sem,Act.eval,h2'];exact ⟨_,rfl,Below.refl _ _,rfl⟩
  | 39,_ =>
    cases hq
    have h44':a.tmps[44]?.getD undef = .pointer (some ⟨B0,9,none⟩):=gq (hG.dep ⟨38,.data⟩ (by simp) rfl _ rfl)
    have c3:w7.cell? ⟨B0,9,none⟩ = some (.int .i64 lo):=by rw [cell_blk (below_blk hC HBx.out.1)];rfl
    unfold Oper.wp
    simp [go_sem,Act.eval,h44',c3]
    exact ⟨_,rfl,Below.refl _ _,rfl⟩
  | 40,_=>cases hq;have h3':a.tmps[3]?.getD undef = .pointer (some ⟨B0 + 1,0,none⟩):=gq (hG.fr 3 (by simp));unfold Oper.wp;simp [go_sem,Act.eval,h3'];exact ⟨_,rfl,Below.refl _ _,rfl⟩
  | 41,_ =>
    cases hq
    have h46':a.tmps[46]?.getD undef = .pointer (some ⟨B0 + 1,9,none⟩):=gq (hG.dep ⟨40,.data⟩ (by simp) rfl _ rfl)
    have c3:w7.cell? ⟨B0 + 1,9,none⟩ = some (.int .i64 lo):=by rw [cell_blk (below_blk hC HBx.out.2)];rfl
    unfold Oper.wp
    simp [go_sem,Act.eval,h46',c3]
    exact ⟨_,rfl,Below.refl _ _,rfl⟩
  | 42,_=>cases hq;have h45':a.tmps[45]?.getD undef = .int .i64 lo:=gq (hG.dep ⟨39,.data⟩ (by simp) rfl _ rfl);have h47':a.tmps[47]?.getD undef = .int .i64 lo:=gq (hG.dep ⟨41,.data⟩ (by simp) rfl _ rfl);unfold Oper.wp;simp [go_sem,Act.eval,h45',h47'];exact ⟨_,rfl,Below.refl _ _,rfl⟩
  | 43,_=>cases hq;have h43':a.tmps[43]?.getD undef = .bool false:=gq (hG.dep ⟨37,.data⟩ (by simp) rfl _ rfl);have h48':a.tmps[48]?.getD undef = .bool false:=gq (hG.dep ⟨42,.data⟩ (by simp) rfl _ rfl);unfold Oper.wp;simp [go_sem,Act.eval,h43',h48'];exact ⟨_,rfl,Below.refl _ _,rfl⟩
  | 44,_=>cases hq;have h49':a.tmps[49]?.getD undef = .bool false:=gq (hG.dep ⟨43,.data⟩ (by simp) rfl _ rfl);unfold Oper.wp;simp [go_sem,Act.eval,h49'];exact ⟨_,rfl,Below.refl _ _,rfl⟩
  | 45,_=>cases hq;have h2':a.tmps[2]?.getD undef = .pointer (some ⟨B0,0,none⟩):=gq (hG.fr 2 (by simp));unfold Oper.wp;simp [go_sem,Act.eval,h2'];exact ⟨_,rfl,Below.refl _ _,rfl⟩
  | 46,_ =>
    cases hq
    have h51':a.tmps[51]?.getD undef = .pointer (some ⟨B0,10,none⟩):=gq (hG.dep ⟨45,.data⟩ (by simp) rfl _ rfl)
    have c3:w7.cell? ⟨B0,10,none⟩ = some (.int .i64 tg):=by rw [cell_blk (below_blk hC HBx.out.1)];rfl
    unfold Oper.wp
    simp [go_sem,Act.eval,h51',c3]
    exact ⟨_,rfl,Below.refl _ _,rfl⟩
  | 47,_=>cases hq;have h3':a.tmps[3]?.getD undef = .pointer (some ⟨B0 + 1,0,none⟩):=gq (hG.fr 3 (by simp));unfold Oper.wp;simp [go_sem,Act.eval,h3'];exact ⟨_,rfl,Below.refl _ _,rfl⟩
  | 48,_ =>
    cases hq
    have h53':a.tmps[53]?.getD undef = .pointer (some ⟨B0 + 1,10,none⟩):=gq (hG.dep ⟨47,.data⟩ (by simp) rfl _ rfl)
    have c3:w7.cell? ⟨B0 + 1,10,none⟩ = some (.int .i64 tg):=by rw [cell_blk (below_blk hC HBx.out.2)];rfl
    unfold Oper.wp
    simp [go_sem,Act.eval,h53',c3]
    exact ⟨_,rfl,Below.refl _ _,rfl⟩
  | 49,_=>cases hq;have h52':a.tmps[52]?.getD undef = .int .i64 tg:=gq (hG.dep ⟨46,.data⟩ (by simp) rfl _ rfl);have h54':a.tmps[54]?.getD undef = .int .i64 tg:=gq (hG.dep ⟨48,.data⟩ (by simp) rfl _ rfl);unfold Oper.wp;simp [go_sem,Act.eval,h52',h54'];exact ⟨_,rfl,Below.refl _ _,rfl⟩
  | 50,_=>cases hq;have h50':a.tmps[50]?.getD undef = .bool false:=gq (hG.dep ⟨44,.data⟩ (by simp) rfl _ rfl);have h55':a.tmps[55]?.getD undef = .bool false:=gq (hG.dep ⟨49,.data⟩ (by simp) rfl _ rfl);unfold Oper.wp;simp [go_sem,Act.eval,h50',h55'];exact ⟨_,rfl,Below.refl _ _,rfl⟩
  | 51,_=>cases hq;have h56':a.tmps[56]?.getD undef = .bool false:=gq (hG.dep ⟨50,.data⟩ (by simp) rfl _ rfl);unfold Oper.wp;simp [go_sem,Act.eval,h56'];exact ⟨_,rfl,Below.refl _ _,rfl⟩
  | 52,_=>cases hq;have h2':a.tmps[2]?.getD undef = .pointer (some ⟨B0,0,none⟩):=gq (hG.fr 2 (by simp));unfold Oper.wp;simp [go_sem,Act.eval,h2'];exact ⟨_,rfl,Below.refl _ _,rfl⟩
  | 53,_ =>
    cases hq
    have h58':a.tmps[58]?.getD undef = .pointer (some ⟨B0,11,none⟩):=gq (hG.dep ⟨52,.data⟩ (by simp) rfl _ rfl)
    have c3:w7.cell? ⟨B0,11,none⟩ = some (.int .i64 bi):=by rw [cell_blk (below_blk hC HBx.out.1)];rfl
    unfold Oper.wp
    simp [go_sem,Act.eval,h58',c3]
    exact ⟨_,rfl,Below.refl _ _,rfl⟩
  | 54,_=>cases hq;have h3':a.tmps[3]?.getD undef = .pointer (some ⟨B0 + 1,0,none⟩):=gq (hG.fr 3 (by simp));unfold Oper.wp;simp [go_sem,Act.eval,h3'];exact ⟨_,rfl,Below.refl _ _,rfl⟩
  | 55,_ =>
    cases hq
    have h60':a.tmps[60]?.getD undef = .pointer (some ⟨B0 + 1,11,none⟩):=gq (hG.dep ⟨54,.data⟩ (by simp) rfl _ rfl)
    have c3:w7.cell? ⟨B0 + 1,11,none⟩ = some (.int .i64 bi):=by rw [cell_blk (below_blk hC HBx.out.2)];rfl
    unfold Oper.wp
    simp [go_sem,Act.eval,h60',c3]
    exact ⟨_,rfl,Below.refl _ _,rfl⟩
  | 56,_=>cases hq;have h59':a.tmps[59]?.getD undef = .int .i64 bi:=gq (hG.dep ⟨53,.data⟩ (by simp) rfl _ rfl);have h61':a.tmps[61]?.getD undef = .int .i64 bi:=gq (hG.dep ⟨55,.data⟩ (by simp) rfl _ rfl);unfold Oper.wp;simp [go_sem,Act.eval,h59',h61'];exact ⟨_,rfl,Below.refl _ _,rfl⟩
  | 57,_=>cases hq;have h57':a.tmps[57]?.getD undef = .bool false:=gq (hG.dep ⟨51,.data⟩ (by simp) rfl _ rfl);have h62':a.tmps[62]?.getD undef = .bool false:=gq (hG.dep ⟨56,.data⟩ (by simp) rfl _ rfl);unfold Oper.wp;simp [go_sem,Act.eval,h57',h62'];exact ⟨_,rfl,Below.refl _ _,rfl⟩
  | 58,_=>cases hq;have h63':a.tmps[63]?.getD undef = .bool false:=gq (hG.dep ⟨57,.data⟩ (by simp) rfl _ rfl);unfold Oper.wp;simp [go_sem,Act.eval,h63'];exact ⟨_,rfl,Below.refl _ _,rfl⟩
  | 59,_=>cases hq;have h2':a.tmps[2]?.getD undef = .pointer (some ⟨B0,0,none⟩):=gq (hG.fr 2 (by simp));unfold Oper.wp;simp [go_sem,Act.eval,h2'];exact ⟨_,rfl,Below.refl _ _,rfl⟩
  | 60,_ =>
    cases hq
    have h65':a.tmps[65]?.getD undef = .pointer (some ⟨B0,12,none⟩):=gq (hG.dep ⟨59,.data⟩ (by simp) rfl _ rfl)
    have c3:w7.cell? ⟨B0,12,none⟩ = some (.int .u8 s):=by rw [cell_blk (below_blk hC HBx.out.1)];rfl
    unfold Oper.wp
    simp [go_sem,Act.eval,h65',c3]
    exact ⟨_,rfl,Below.refl _ _,rfl⟩
  | 61,_=>cases hq;have h3':a.tmps[3]?.getD undef = .pointer (some ⟨B0 + 1,0,none⟩):=gq (hG.fr 3 (by simp));unfold Oper.wp;simp [go_sem,Act.eval,h3'];exact ⟨_,rfl,Below.refl _ _,rfl⟩
  | 62,_ =>
    cases hq
    have h67':a.tmps[67]?.getD undef = .pointer (some ⟨B0 + 1,12,none⟩):=gq (hG.dep ⟨61,.data⟩ (by simp) rfl _ rfl)
    have c3:w7.cell? ⟨B0 + 1,12,none⟩ = some (.int .u8 s):=by rw [cell_blk (below_blk hC HBx.out.2)];rfl
    unfold Oper.wp
    simp [go_sem,Act.eval,h67',c3]
    exact ⟨_,rfl,Below.refl _ _,rfl⟩
  | 63,_=>cases hq;have h66':a.tmps[66]?.getD undef = .int .u8 s:=gq (hG.dep ⟨60,.data⟩ (by simp) rfl _ rfl);have h68':a.tmps[68]?.getD undef = .int .u8 s:=gq (hG.dep ⟨62,.data⟩ (by simp) rfl _ rfl);unfold Oper.wp;simp [go_sem,Act.eval,h66',h68'];exact ⟨_,rfl,Below.refl _ _,rfl⟩
  | 64,_=>cases hq;have h64':a.tmps[64]?.getD undef = .bool false:=gq (hG.dep ⟨58,.data⟩ (by simp) rfl _ rfl);have h69':a.tmps[69]?.getD undef = .bool false:=gq (hG.dep ⟨63,.data⟩ (by simp) rfl _ rfl);unfold Oper.wp;simp [go_sem,Act.eval,h64',h69'];exact ⟨_,rfl,Below.refl _ _,rfl⟩
  | 65,_=>cases hq;have h70':a.tmps[70]?.getD undef = .bool false:=gq (hG.dep ⟨64,.data⟩ (by simp) rfl _ rfl);unfold Oper.wp;simp [go_sem,Act.eval,h70'];exact ⟨_,rfl,Below.refl _ _,rfl⟩
  | 66,_=>cases hq;have h2':a.tmps[2]?.getD undef = .pointer (some ⟨B0,0,none⟩):=gq (hG.fr 2 (by simp));unfold Oper.wp;simp [go_sem,Act.eval,h2'];exact ⟨_,rfl,Below.refl _ _,rfl⟩
  | 67,_ =>
    cases hq
    have h72':a.tmps[72]?.getD undef = .pointer (some ⟨B0,13,none⟩):=gq (hG.dep ⟨66,.data⟩ (by simp) rfl _ rfl)
    have c3:w7.cell? ⟨B0,13,none⟩ = some (.bool fu):=by rw [cell_blk (below_blk hC HBx.out.1)];rfl
    unfold Oper.wp
    simp [go_sem,Act.eval,h72',c3]
    exact ⟨_,rfl,Below.refl _ _,rfl⟩
  | 68,_=>cases hq;have h3':a.tmps[3]?.getD undef = .pointer (some ⟨B0 + 1,0,none⟩):=gq (hG.fr 3 (by simp));unfold Oper.wp;simp [go_sem,Act.eval,h3'];exact ⟨_,rfl,Below.refl _ _,rfl⟩
  | 69,_ =>
    cases hq
    have h74':a.tmps[74]?.getD undef = .pointer (some ⟨B0 + 1,13,none⟩):=gq (hG.dep ⟨68,.data⟩ (by simp) rfl _ rfl)
    have c3:w7.cell? ⟨B0 + 1,13,none⟩ = some (.bool fu):=by rw [cell_blk (below_blk hC HBx.out.2)];rfl
    unfold Oper.wp
    simp [go_sem,Act.eval,h74',c3]
    exact ⟨_,rfl,Below.refl _ _,rfl⟩
  | 70,_=>cases hq;have h73':a.tmps[73]?.getD undef = .bool fu:=gq (hG.dep ⟨67,.data⟩ (by simp) rfl _ rfl);have h75':a.tmps[75]?.getD undef = .bool fu:=gq (hG.dep ⟨69,.data⟩ (by simp) rfl _ rfl);unfold Oper.wp;simp [go_sem,Act.eval,h73',h75'];exact ⟨_,rfl,Below.refl _ _,rfl⟩
  | 71,_=>cases hq;have h71':a.tmps[71]?.getD undef = .bool false:=gq (hG.dep ⟨65,.data⟩ (by simp) rfl _ rfl);have h76':a.tmps[76]?.getD undef = .bool false:=gq (hG.dep ⟨70,.data⟩ (by simp) rfl _ rfl);unfold Oper.wp;simp [go_sem,Act.eval,h71',h76'];exact ⟨_,rfl,Below.refl _ _,rfl⟩
  | 72,_=>cases hq;have h77':a.tmps[77]?.getD undef = .bool false:=gq (hG.dep ⟨71,.data⟩ (by simp) rfl _ rfl);unfold Oper.wp;simp [go_sem,Act.eval,h77'];exact ⟨_,rfl,Below.refl _ _,rfl⟩
  | 73,_=>cases hq;have h2':a.tmps[2]?.getD undef = .pointer (some ⟨B0,0,none⟩):=gq (hG.fr 2 (by simp));unfold Oper.wp;simp [go_sem,Act.eval,h2'];exact ⟨_,rfl,Below.refl _ _,rfl⟩
  | 74,_ =>
    cases hq
    have h79':a.tmps[79]?.getD undef = .pointer (some ⟨B0,15,none⟩):=gq (hG.dep ⟨73,.data⟩ (by simp) rfl _ rfl)
    have c3:w7.cell? ⟨B0,15,none⟩ = some (.slice none 0 0):=by rw [cell_blk (below_blk hC HBx.out.1)];rfl
    unfold Oper.wp
    simp [go_sem,Act.eval,h79',c3]
    exact ⟨_,rfl,Below.refl _ _,rfl⟩
  | 75,_=>cases hq;have h80':a.tmps[80]?.getD undef = .slice none 0 0:=gq (hG.dep ⟨74,.data⟩ (by simp) rfl _ rfl);unfold Oper.wp;simp [go_sem,Act.eval,h80'];exact ⟨_,rfl,Below.refl _ _,rfl⟩
  | 76,_=>cases hq;have h3':a.tmps[3]?.getD undef = .pointer (some ⟨B0 + 1,0,none⟩):=gq (hG.fr 3 (by simp));unfold Oper.wp;simp [go_sem,Act.eval,h3'];exact ⟨_,rfl,Below.refl _ _,rfl⟩
  | 77,_ =>
    cases hq
    have h82':a.tmps[82]?.getD undef = .pointer (some ⟨B0 + 1,15,none⟩):=gq (hG.dep ⟨76,.data⟩ (by simp) rfl _ rfl)
    have c3:w7.cell? ⟨B0 + 1,15,none⟩ = some (.slice none 0 0):=by rw [cell_blk (below_blk hC HBx.out.2)];rfl
    unfold Oper.wp
    simp [go_sem,Act.eval,h82',c3]
    exact ⟨_,rfl,Below.refl _ _,rfl⟩
  | 78,_=>cases hq;have h83':a.tmps[83]?.getD undef = .slice none 0 0:=gq (hG.dep ⟨77,.data⟩ (by simp) rfl _ rfl);unfold Oper.wp;simp [go_sem,Act.eval,h83'];exact ⟨_,rfl,Below.refl _ _,rfl⟩
  | 79,_=>cases hq;have h81':a.tmps[81]?.getD undef = .int .i64 0:=gq (hG.dep ⟨75,.data⟩ (by simp) rfl _ rfl);have h84':a.tmps[84]?.getD undef = .int .i64 0:=gq (hG.dep ⟨78,.data⟩ (by simp) rfl _ rfl);unfold Oper.wp;simp [go_sem,Act.eval,h81',h84'];exact ⟨_,rfl,Below.refl _ _,rfl⟩
 intro a w7 hC hdf hsz hfr hphi
 have e0:a.tmps.getD 6 undef = .pointer (some ⟨B0,0,none⟩):=hphi 0 _ rfl
 have e1:a.tmps.getD 7 undef = .int .u8 k:=hphi 1 _ rfl
 have e2:a.tmps.getD 8 undef = .pointer (some ⟨B0 + 1,0,none⟩):=hphi 2 _ rfl
 have e3:a.tmps.getD 9 undef = .int .u8 k:=hphi 3 _ rfl
 have e4:a.tmps.getD 10 undef = .bool false:=hphi 4 _ rfl
 have e5:a.tmps.getD 11 undef = .bool false:=hphi 5 _ rfl
 have e6:a.tmps.getD 12 undef = .pointer (some ⟨B0,1,none⟩):=hphi 6 _ rfl
 have e7:a.tmps.getD 13 undef = .int .i64 h:=hphi 7 _ rfl
 have e8:a.tmps.getD 14 undef = .pointer (some ⟨B0 + 1,1,none⟩):=hphi 8 _ rfl
 have e9:a.tmps.getD 15 undef = .int .i64 h:=hphi 9 _ rfl
 have e10:a.tmps.getD 16 undef = .bool false:=hphi 10 _ rfl
 have e11:a.tmps.getD 17 undef = .bool false:=hphi 11 _ rfl
 have e12:a.tmps.getD 18 undef = .bool false:=hphi 12 _ rfl
 have e13:a.tmps.getD 19 undef = .pointer (some ⟨B0,2,none⟩):=hphi 13 _ rfl
 have e14:a.tmps.getD 20 undef = .agg #[.int .u8 vk,.int .i64 vn,.string vstr,(.slice pv vl.length cv),.int .i64 vr]:=hphi 14 _ rfl
 have e15:a.tmps.getD 21 undef = .pointer (some ⟨B0 + 1,2,none⟩):=hphi 15 _ rfl
 have e16:a.tmps.getD 22 undef = .agg #[.int .u8 vk,.int .i64 vn,.string vstr,(.slice pv2 vl.length cv2),.int .i64 vr]:=hphi 16 _ rfl
 have e17:a.tmps.getD 23 undef = .bool true:=hphi 17 _ rfl
 have e18:a.tmps.getD 24 undef = .bool false:=hphi 18 _ rfl
 have e19:a.tmps.getD 25 undef = .bool false:=hphi 19 _ rfl
 have e20:a.tmps.getD 26 undef = .bool false:=hphi 20 _ rfl
 have e21:a.tmps.getD 27 undef = .pointer (some ⟨B0,7,none⟩):=hphi 21 _ rfl
 have e22:a.tmps.getD 28 undef = (.slice ps vs.length cs):=hphi 22 _ rfl
 have e23:a.tmps.getD 29 undef = .agg #[.int .u8 3,.int .i64 0,.string ⟨#[]⟩,(.slice ps vs.length cs),.int .i64 0]:=hphi 23 _ rfl
 have e24:a.tmps.getD 30 undef = .pointer (some ⟨B0 + 1,7,none⟩):=hphi 24 _ rfl
 have e25:a.tmps.getD 31 undef = (.slice ps2 vs.length cs2):=hphi 25 _ rfl
 have e26:a.tmps.getD 32 undef = .agg #[.int .u8 3,.int .i64 0,.string ⟨#[]⟩,(.slice ps2 vs.length cs2),.int .i64 0]:=hphi 26 _ rfl
 have e27:a.tmps.getD 33 undef = .bool true:=hphi 27 _ rfl
 have e28:a.tmps.getD 34 undef = .bool false:=hphi 28 _ rfl
 have e29:a.tmps.getD 35 undef = .bool false:=hphi 29 _ rfl
 have e30:a.tmps.getD 36 undef = .bool false:=hphi 30 _ rfl
 have e31:a.tmps.getD 37 undef = .pointer (some ⟨B0,8,none⟩):=hphi 31 _ rfl
 have e32:a.tmps.getD 38 undef = .int .i64 n:=hphi 32 _ rfl
 have e33:a.tmps.getD 39 undef = .pointer (some ⟨B0 + 1,8,none⟩):=hphi 33 _ rfl
 have e34:a.tmps.getD 40 undef = .int .i64 n:=hphi 34 _ rfl
 have e35:a.tmps.getD 41 undef = .bool false:=hphi 35 _ rfl
 have e36:a.tmps.getD 42 undef = .bool false:=hphi 36 _ rfl
 have e37:a.tmps.getD 43 undef = .bool false:=hphi 37 _ rfl
 have e38:a.tmps.getD 44 undef = .pointer (some ⟨B0,9,none⟩):=hphi 38 _ rfl
 have e39:a.tmps.getD 45 undef = .int .i64 lo:=hphi 39 _ rfl
 have e40:a.tmps.getD 46 undef = .pointer (some ⟨B0 + 1,9,none⟩):=hphi 40 _ rfl
 have e41:a.tmps.getD 47 undef = .int .i64 lo:=hphi 41 _ rfl
 have e42:a.tmps.getD 48 undef = .bool false:=hphi 42 _ rfl
 have e43:a.tmps.getD 49 undef = .bool false:=hphi 43 _ rfl
 have e44:a.tmps.getD 50 undef = .bool false:=hphi 44 _ rfl
 have e45:a.tmps.getD 51 undef = .pointer (some ⟨B0,10,none⟩):=hphi 45 _ rfl
 have e46:a.tmps.getD 52 undef = .int .i64 tg:=hphi 46 _ rfl
 have e47:a.tmps.getD 53 undef = .pointer (some ⟨B0 + 1,10,none⟩):=hphi 47 _ rfl
 have e48:a.tmps.getD 54 undef = .int .i64 tg:=hphi 48 _ rfl
 have e49:a.tmps.getD 55 undef = .bool false:=hphi 49 _ rfl
 have e50:a.tmps.getD 56 undef = .bool false:=hphi 50 _ rfl
 have e51:a.tmps.getD 57 undef = .bool false:=hphi 51 _ rfl
 have e52:a.tmps.getD 58 undef = .pointer (some ⟨B0,11,none⟩):=hphi 52 _ rfl
 have e53:a.tmps.getD 59 undef = .int .i64 bi:=hphi 53 _ rfl
 have e54:a.tmps.getD 60 undef = .pointer (some ⟨B0 + 1,11,none⟩):=hphi 54 _ rfl
 have e55:a.tmps.getD 61 undef = .int .i64 bi:=hphi 55 _ rfl
 have e56:a.tmps.getD 62 undef = .bool false:=hphi 56 _ rfl
 have e57:a.tmps.getD 63 undef = .bool false:=hphi 57 _ rfl
 have e58:a.tmps.getD 64 undef = .bool false:=hphi 58 _ rfl
 have e59:a.tmps.getD 65 undef = .pointer (some ⟨B0,12,none⟩):=hphi 59 _ rfl
 have e60:a.tmps.getD 66 undef = .int .u8 s:=hphi 60 _ rfl
 have e61:a.tmps.getD 67 undef = .pointer (some ⟨B0 + 1,12,none⟩):=hphi 61 _ rfl
 have e62:a.tmps.getD 68 undef = .int .u8 s:=hphi 62 _ rfl
 have e63:a.tmps.getD 69 undef = .bool false:=hphi 63 _ rfl
 have e64:a.tmps.getD 70 undef = .bool false:=hphi 64 _ rfl
 have e65:a.tmps.getD 71 undef = .bool false:=hphi 65 _ rfl
 have e66:a.tmps.getD 72 undef = .pointer (some ⟨B0,13,none⟩):=hphi 66 _ rfl
 have e67:a.tmps.getD 73 undef = .bool fu:=hphi 67 _ rfl
 have e68:a.tmps.getD 74 undef = .pointer (some ⟨B0 + 1,13,none⟩):=hphi 68 _ rfl
 have e69:a.tmps.getD 75 undef = .bool fu:=hphi 69 _ rfl
 have e70:a.tmps.getD 76 undef = .bool false:=hphi 70 _ rfl
 have e71:a.tmps.getD 77 undef = .bool false:=hphi 71 _ rfl
 have e72:a.tmps.getD 78 undef = .bool false:=hphi 72 _ rfl
 have e73:a.tmps.getD 79 undef = .pointer (some ⟨B0,15,none⟩):=hphi 73 _ rfl
 have e74:a.tmps.getD 80 undef = .slice none 0 0:=hphi 74 _ rfl
 have e75:a.tmps.getD 81 undef = .int .i64 0:=hphi 75 _ rfl
 have e76:a.tmps.getD 82 undef = .pointer (some ⟨B0 + 1,15,none⟩):=hphi 76 _ rfl
 have e77:a.tmps.getD 83 undef = .slice none 0 0:=hphi 77 _ rfl
 have e78:a.tmps.getD 84 undef = .int .i64 0:=hphi 78 _ rfl
 have e79:a.tmps.getD 85 undef = .bool false:=hphi 79 _ rfl
 have ha:=act_of hdf hsz hfr
 simp only [List.append_eq,List.cons_append,List.nil_append,List.take_succ_cons,List.take_zero,List.filterMap_cons,List.filterMap_nil,List.foldl_cons,List.foldl_nil,List.setIfInBounds_toArray,List.set_cons_zero,List.set_cons_succ,e0,e1,e2,e3,e4,e5,e6,e7,e8,e9,e10,e11,e12,e13,e14,e15,e16,e17,e18,e19,e20,e21,e22,e23,e24,e25,e26,e27,e28,e29,e30,e31,e32,e33,e34,e35,e36,e37,e38,e39,e40,e41,e42,e43,e44,e45,e46,e47,e48,e49,e50,e51,e52,e53,e54,e55,e56,e57,e58,e59,e60,e61,e62,e63,e64,e65,e66,e67,e68,e69,e70,e71,e72,e73,e74,e75,e76,e77,e78,e79] at ha
 clear hdf hsz hfr hphi e0 e1 e2 e3 e4 e5 e6 e7 e8 e9 e10 e11 e12 e13 e14 e15 e16 e17 e18 e19 e20 e21 e22 e23 e24 e25 e26 e27 e28 e29 e30 e31 e32 e33 e34 e35 e36 e37 e38 e39 e40 e41 e42 e43 e44 e45 e46 e47 e48 e49 e50 e51 e52 e53 e54 e55 e56 e57 e58 e59 e60 e61 e62 e63 e64 e65 e66 e67 e68 e69 e70 e71 e72 e73 e74 e75 e76 e77 e78 e79
 subst ha
 have HT:=(show Hid (Below w.heap.size w w7∧w7.heap[B0]? = _∧w7.heap[B0 + 1]? = _) from ⟨HB2.out w7 hC,below_blk hC HBx.out.1,below_blk hC HBx.out.2⟩)
 clear hC HB2 HS1 HS2
 obtain ⟨a0,a1,a2,a3,a4,a5,a6,a7,a8,a9,a10,a11,a12,a13,a14,a15⟩:=cells16 HT.out.2.1
 obtain ⟨b0,b1,b2,b3,b4,b5,b6,b7,b8,b9,b10,b11,b12,b13,b14,b15⟩:=cells16 HT.out.2.2
 refine ⟨rfl,?_⟩
 unfold Oper.wp
 simp [execOp,go_sem,Act.eval,wpTailG]
 refine ‹∀ (a:Act) (w:World),Code.wp Tryz.prog _ _ a w→_› _ _ ?_
 go_wp2_with fail
 go_loopw [5] (fun vi wr=>vi = .int .i64 0∧wr = w7) (fun _ _=>0)
 case atStart=>exact ⟨rfl,rfl⟩
 case round =>
  obtain ⟨rfl,rfl⟩:=hrel
  go_wp2_with fail
  refine (sameCode07_nil _).mono ?_
  rintro e w8 ⟨rfl,hb⟩
  have HB:=(show Hid (Below w.heap.size w w8) from HT.out.1.trans (hb.mono HT.out.1.size))
  clear hb a0 a1 a2 a3 a4 a5 a6 a7 a8 a9 a10 a11 a12 a13 a14 a15 b0 b1 b2 b3 b4 b5 b6 b7 b8 b9 b10 b11 b12 b13 b14 b15
  go_wp2_with fail
  go_ret
  exact ⟨rfl,HB.out⟩
end Go.Proofs.YthaliljaglldjaaGreat
