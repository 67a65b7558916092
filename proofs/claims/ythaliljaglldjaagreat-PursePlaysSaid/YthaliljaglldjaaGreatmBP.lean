/- A part of the proof, several texts in one: PyF, St5, Facet, Free. -/
import Derived.Test.YthaliljaglldjaaGreatmBO
import Derived.Deep.DeepCutAuto
import Derived.Deep.CutBlock
import Derived.Deep.QuietTactic
import Derived.BigQuiet
import Derived.Test.YthaliljaglldjaaGreatmBD
import Derived.Test.YthaliljaglldjaaGreatmAL
import Derived.Deep.Slices
import Derived.Lib.SmallJoins
import Derived.WalkKit
import Derived.ProofKit
import Derived.OpenShut
import Derived.ChangeSame
import Derived.Test.YthaliljaglldjaaGreatmAC
import Derived.Test.YthaliljaglldjaaGreatmAD
/- posternlaw10.both: a call, in both worlds. Printed by gen_both10.py. -/
namespace Go.Proofs.YthaliljaglldjaaGreat
open Go.RowKit Go.ChangeMaps Go.MapKept
variable {w:World} {p q:Nat} {M:WM} {F G:Nat→Prop}
def TwoC (w w1:World) (K D:World→Prop) (s:Nat) (w':World):Prop:=(∀ b,w.heap.size ≤ b→b < w1.heap.size→w'.heap[b]? = w1.heap[b]?)∧w1.heap.size ≤ w'.heap.size∧(match s with | 0=>Below w.heap.size w w' | 1=>K w' | _=>D w')
def K1 (x:Int) (w:World) (p q:Nat) (M:WM) (F G:Nat→Prop) (g:FuncId) (b:Array Value) (w':World):Prop :=
 ∀ w'',Below w'.heap.size w' w''→Calls Tryz.prog g b w'' fun e w6=>e = .returned (.int .i64 x)∧PStep w p q M F G w6∧Keeps G w'' w6
theorem PStep.below {w w' w'':World} (h:PStep w p q M F G w') (hb:Below w'.heap.size w' w''):PStep w p q M F G w'':=by
 obtain ⟨M',F',G',h1,h2,h3,h4⟩:=h
 exact ⟨M',F',G',h1.below hb,h2,h3.then_below hb,h4⟩
theorem TwoC.start {w w1:World} {K D:World→Prop} (hb:Below w.heap.size w w1):TwoC w w1 K D 0 w1.drew:=⟨fun _ _ _=>rfl,Nat.le_refl _,hb.trans (below_drew.mono hb.size)⟩
theorem TwoC.stay {w w1:World} {K D:World→Prop} (hK:∀ a b,Below a.heap.size a b→K a→K b) (hD:∀ a b,Below a.heap.size a b→D a→D b):∀ (s:Nat) (a b:World),TwoC w w1 K D s a→Below a.heap.size a b→TwoC w w1 K D s b:=fun s a b h hb =>
 ⟨fun x h1 h2=>(hb.block x (Nat.lt_of_lt_of_le h2 h.2.1)).trans (h.1 x h1 h2),Nat.le_trans h.2.1 hb.size,by
  have h3:=h.2.2
  match s,h3 with
  | 0,h3=>have h3:Below w.heap.size w a:=h3;exact h3.trans (hb.mono h3.size)
  | 1,h3=>exact hK a b hb h3
  | s + 2,h3=>exact hD a b hb h3⟩
theorem TwoC.stayK {w w1:World} {x:Int} {g:FuncId} {b:Array Value}:∀ (s:Nat) (a c:World),TwoC w w1 (K1 x w p q M F G g b) (PStep w p q M F G) s a→Below a.heap.size a c→TwoC w w1 (K1 x w p q M F G g b) (PStep w p q M F G) s c :=
 TwoC.stay (fun _ _ hb hk w'' hb2=>hk w'' (hb.trans (hb2.mono hb.size))) fun _ _ hb h=>h.below hb
theorem TwoC.one {w w1 w7 w8:World} {K D K' D':World→Prop} (h:TwoC w w1 K D 0 w7) (hk:Keeps (fun b=>F b∨G b) w7 w8) (hFG:∀ b,F b∨G b→b < w.heap.size) (hK:K' w8):TwoC w w1 K' D' 1 w8 :=
 ⟨fun b h1 h2=>(hk.block b (Nat.lt_of_lt_of_le h2 h.2.1) (fun e=>by have:=hFG b e;omega)).trans (h.1 b h1 h2),Nat.le_trans h.2.1 hk.size,hK⟩
theorem TwoC.two {w w1 w7 w8:World} {K D K' D':World→Prop} (h:TwoC w w1 K D 1 w7) (hk:Keeps G w7 w8) (hG:∀ b,G b→b < w.heap.size) (hD:D' w8):TwoC w w1 K' D' 2 w8 :=
 ⟨fun b h1 h2=>(hk.block b (Nat.lt_of_lt_of_le h2 h.2.1) (fun e=>by have:=hG b e;omega)).trans (h.1 b h1 h2),Nat.le_trans h.2.1 hk.size,hD⟩
theorem TwoC.cell {w w1 w7:World} {K D:World→Prop} {s:Nat} (h:TwoC w w1 K D s w7) {b i:Nat} {v:Value} (h1:w.heap.size ≤ b) (hc:w1.cell? ⟨b,i,none⟩ = some v):w7.cell? ⟨b,i,none⟩ = some v :=
 (World.cell?_of_block (a:=⟨b,i,none⟩) (h.1 b h1 (World.block_lt_of_cell? _ _ hc))).trans hc
theorem Two1.stage {x:Int} {w w7:World} {f g:FuncId} {a b:Array Value} (h:Two1 x w7 p q M F G f a g b) (hb:Below w.heap.size w w7) :
 Calls Tryz.prog f a w7 fun e w8=>e = .returned (.int .i64 x)∧Keeps (fun b=>F b∨G b) w7 w8∧K1 x w p q M F G g b w8 :=
 h.mono fun _ _ ⟨h1,h2,h3⟩=>⟨h1,h2,fun w'' hb2=>(h3 w'' hb2).mono fun _ _ ⟨k1,k2,k3⟩=>⟨k1,k2.of_below hb,k3⟩⟩
set_option maxHeartbeats 4000000 in
set_option maxRecDepth 20000 in
theorem both_0 (S:PS w p q M F G) (hl:M.last + 1 ≤ 100000) (sd r qq n:Int):Calls Tryz.prog 23 #[.pointer (some ⟨p,0,none⟩),.pointer (some ⟨q,0,none⟩),.agg #[.int .i64 0,.int .i64 sd,.int .i64 r,.int .i64 qq,.int .i64 n]] w fun e w'=>e = .returned (.bool true)∧PStep w p q M F G w':=by
 have hFl:∀ b,F b∨G b→b < w.heap.size:=fun b hb=>hb.elim (S.W.lt b) (S.R.lt b)
 have HFl:=(show Hid (∀ b,F b∨G b→b < w.heap.size) from hFl)
 have HT:Hid (∀ w',Below w.heap.size w w'→Two2 w' p q M F G 95 #[.pointer (some ⟨p,0,none⟩),.int .i64 sd] 101 #[.pointer (some ⟨q,0,none⟩),.int .i64 sd]):=fun w' hb=>mint2 (S.below hb) hl sd
 clear S hl hFl
 have H1:Hid (Below w.heap.size w (w.alloc (.cells #[.int .i64 0,.int .i64 sd,.int .i64 r,.int .i64 qq,.int .i64 n] 62))∧(w.alloc (.cells #[.int .i64 0,.int .i64 sd,.int .i64 r,.int .i64 qq,.int .i64 n] 62)).heap[w.heap.size]? = some (.cells #[.int .i64 0,.int .i64 sd,.int .i64 r,.int .i64 qq,.int .i64 n] 62 (0,0))):=⟨(Below.refl _ w).alloc (Nat.le_refl _) _,blk_new _ _⟩
 go_enter Tryz.func23,Tryz.ntmps23
 go_upto_region 1 with fail
 revert H1
 generalize w.alloc _ = w1
 intro H1
 have c0:w1.cell? ⟨w.heap.size,0,none⟩ = some (.int .i64 0):=by rw [cell_blk H1.out.2];rfl
 have c1:w1.cell? ⟨w.heap.size,1,none⟩ = some (.int .i64 sd):=by rw [cell_blk H1.out.2];rfl
 have c2:w1.cell? ⟨w.heap.size,2,none⟩ = some (.int .i64 r):=by rw [cell_blk H1.out.2];rfl
 have c4:w1.cell? ⟨w.heap.size,4,none⟩ = some (.int .i64 n):=by rw [cell_blk H1.out.2];rfl
 have HT1:=(show Hid (Two2 w1 p q M F G 95 #[.pointer (some ⟨p,0,none⟩),.int .i64 sd] 101 #[.pointer (some ⟨q,0,none⟩),.int .i64 sd]) from HT.out w1 H1.out.1)
 clear HT
 go_wp2_with fail
 refine Calls.mono HT1.out ?_
 rintro e w5 ⟨x,y,rfl,hk5,hn5⟩
 have hB5:=(hk5.block _ (blk_lt H1.out.2) (fun h=>by have:=HFl.out _ h;omega)).trans H1.out.2
 have HN:=(show Hid (∀ w',Below w5.heap.size w5 w'→Calls Tryz.prog 101 #[.pointer (some ⟨q,0,none⟩),.int .i64 sd] w' fun e w6=>e = .returned (.tuple #[.int .i64 x,.int .i64 y])∧PStep w1 p q M F G w6) from hn5)
 clear hk5 hn5 HT1 c0 c1 c2 c4
 have c1:w5.cell? ⟨w.heap.size,1,none⟩ = some (.int .i64 sd):=by rw [cell_blk hB5];rfl
 have c2:w5.cell? ⟨w.heap.size,2,none⟩ = some (.int .i64 r):=by rw [cell_blk hB5];rfl
 have c4:w5.cell? ⟨w.heap.size,4,none⟩ = some (.int .i64 n):=by rw [cell_blk hB5];rfl
 clear hB5
 go_wp2_with fail
 refine Calls.mono (HN.out w5 (Below.refl _ _)) ?_
 rintro e w6 ⟨rfl,hS6⟩
 have H6:Hid (PStep w p q M F G w6):=hS6.of_below H1.out.1
 clear hS6 HN H1 c1 c2 c4
 go_wp2_with fail
 go_ret
 exact ⟨rfl,H6.out⟩
set_option maxHeartbeats 4000000 in
set_option maxRecDepth 20000 in
theorem both_1 (S:PS w p q M F G) (hl:M.last + 1 ≤ 100000) (sd qq n:Int) {r:Int} (hr:(Lit.int .i64 r).wf = true):Calls Tryz.prog 23 #[.pointer (some ⟨p,0,none⟩),.pointer (some ⟨q,0,none⟩),.agg #[.int .i64 1,.int .i64 sd,.int .i64 r,.int .i64 qq,.int .i64 n]] w fun e w'=>e = .returned (.bool true)∧PStep w p q M F G w':=by
 have hFl:∀ b,F b∨G b→b < w.heap.size:=fun b hb=>hb.elim (S.W.lt b) (S.R.lt b)
 have HFl:=(show Hid (∀ b,F b∨G b→b < w.heap.size) from hFl)
 have HT:Hid (∀ w',Below w.heap.size w w'→Two2 w' p q M F G 96 #[.pointer (some ⟨p,0,none⟩),.int .i64 r,.int .i64 n] 102 #[.pointer (some ⟨q,0,none⟩),.int .i64 r,.int .i64 n]):=fun w' hb=>ask2 (S.below hb) hl n hr
 clear S hl hr hFl
 have H1:Hid (Below w.heap.size w (w.alloc (.cells #[.int .i64 1,.int .i64 sd,.int .i64 r,.int .i64 qq,.int .i64 n] 62))∧(w.alloc (.cells #[.int .i64 1,.int .i64 sd,.int .i64 r,.int .i64 qq,.int .i64 n] 62)).heap[w.heap.size]? = some (.cells #[.int .i64 1,.int .i64 sd,.int .i64 r,.int .i64 qq,.int .i64 n] 62 (0,0))):=⟨(Below.refl _ w).alloc (Nat.le_refl _) _,blk_new _ _⟩
 go_enter Tryz.func23,Tryz.ntmps23
 go_upto_region 1 with fail
 revert H1
 generalize w.alloc _ = w1
 intro H1
 have c0:w1.cell? ⟨w.heap.size,0,none⟩ = some (.int .i64 1):=by rw [cell_blk H1.out.2];rfl
 have c1:w1.cell? ⟨w.heap.size,1,none⟩ = some (.int .i64 sd):=by rw [cell_blk H1.out.2];rfl
 have c2:w1.cell? ⟨w.heap.size,2,none⟩ = some (.int .i64 r):=by rw [cell_blk H1.out.2];rfl
 have c4:w1.cell? ⟨w.heap.size,4,none⟩ = some (.int .i64 n):=by rw [cell_blk H1.out.2];rfl
 have HT1:=(show Hid (Two2 w1 p q M F G 96 #[.pointer (some ⟨p,0,none⟩),.int .i64 r,.int .i64 n] 102 #[.pointer (some ⟨q,0,none⟩),.int .i64 r,.int .i64 n]) from HT.out w1 H1.out.1)
 clear HT
 go_wp2_with fail
 refine Calls.mono HT1.out ?_
 rintro e w5 ⟨x,y,rfl,hk5,hn5⟩
 have hB5:=(hk5.block _ (blk_lt H1.out.2) (fun h=>by have:=HFl.out _ h;omega)).trans H1.out.2
 have HN:=(show Hid (∀ w',Below w5.heap.size w5 w'→Calls Tryz.prog 102 #[.pointer (some ⟨q,0,none⟩),.int .i64 r,.int .i64 n] w' fun e w6=>e = .returned (.tuple #[.int .i64 x,.int .i64 y])∧PStep w1 p q M F G w6) from hn5)
 clear hk5 hn5 HT1 c0 c1 c2 c4
 have c1:w5.cell? ⟨w.heap.size,1,none⟩ = some (.int .i64 sd):=by rw [cell_blk hB5];rfl
 have c2:w5.cell? ⟨w.heap.size,2,none⟩ = some (.int .i64 r):=by rw [cell_blk hB5];rfl
 have c4:w5.cell? ⟨w.heap.size,4,none⟩ = some (.int .i64 n):=by rw [cell_blk hB5];rfl
 clear hB5
 go_wp2_with fail
 refine Calls.mono (HN.out w5 (Below.refl _ _)) ?_
 rintro e w6 ⟨rfl,hS6⟩
 have H6:Hid (PStep w p q M F G w6):=hS6.of_below H1.out.1
 clear hS6 HN H1 c1 c2 c4
 go_wp2_with fail
 go_ret
 exact ⟨rfl,H6.out⟩
set_option maxHeartbeats 4000000 in
set_option maxRecDepth 20000 in
theorem both_3 (S:PS w p q M F G) (hl:M.last + 1 ≤ 100000) (sd qq n:Int) {r:Int} (hr:(Lit.int .i64 r).wf = true):Calls Tryz.prog 23 #[.pointer (some ⟨p,0,none⟩),.pointer (some ⟨q,0,none⟩),.agg #[.int .i64 3,.int .i64 sd,.int .i64 r,.int .i64 qq,.int .i64 n]] w fun e w'=>e = .returned (.bool true)∧PStep w p q M F G w':=by
 have hFl:∀ b,F b∨G b→b < w.heap.size:=fun b hb=>hb.elim (S.W.lt b) (S.R.lt b)
 have HFl:=(show Hid (∀ b,F b∨G b→b < w.heap.size) from hFl)
 have HT:Hid (∀ w',Below w.heap.size w w'→Two2 w' p q M F G 97 #[.pointer (some ⟨p,0,none⟩),.int .i64 r,.int .i64 n] 103 #[.pointer (some ⟨q,0,none⟩),.int .i64 r,.int .i64 n]):=fun w' hb=>take2 (S.below hb) hl n hr
 clear S hl hr hFl
 have H1:Hid (Below w.heap.size w (w.alloc (.cells #[.int .i64 3,.int .i64 sd,.int .i64 r,.int .i64 qq,.int .i64 n] 62))∧(w.alloc (.cells #[.int .i64 3,.int .i64 sd,.int .i64 r,.int .i64 qq,.int .i64 n] 62)).heap[w.heap.size]? = some (.cells #[.int .i64 3,.int .i64 sd,.int .i64 r,.int .i64 qq,.int .i64 n] 62 (0,0))):=⟨(Below.refl _ w).alloc (Nat.le_refl _) _,blk_new _ _⟩
 go_enter Tryz.func23,Tryz.ntmps23
 go_upto_region 1 with fail
 revert H1
 generalize w.alloc _ = w1
 intro H1
 have c0:w1.cell? ⟨w.heap.size,0,none⟩ = some (.int .i64 3):=by rw [cell_blk H1.out.2];rfl
 have c1:w1.cell? ⟨w.heap.size,1,none⟩ = some (.int .i64 sd):=by rw [cell_blk H1.out.2];rfl
 have c2:w1.cell? ⟨w.heap.size,2,none⟩ = some (.int .i64 r):=by rw [cell_blk H1.out.2];rfl
 have c4:w1.cell? ⟨w.heap.size,4,none⟩ = some (.int .i64 n):=by rw [cell_blk H1.out.2];rfl
 have HT1:=(show Hid (Two2 w1 p q M F G 97 #[.pointer (some ⟨p,0,none⟩),.int .i64 r,.int .i64 n] 103 #[.pointer (some ⟨q,0,none⟩),.int .i64 r,.int .i64 n]) from HT.out w1 H1.out.1)
 clear HT
 go_wp2_with fail
 refine Calls.mono HT1.out ?_
 rintro e w5 ⟨x,y,rfl,hk5,hn5⟩
 have hB5:=(hk5.block _ (blk_lt H1.out.2) (fun h=>by have:=HFl.out _ h;omega)).trans H1.out.2
 have HN:=(show Hid (∀ w',Below w5.heap.size w5 w'→Calls Tryz.prog 103 #[.pointer (some ⟨q,0,none⟩),.int .i64 r,.int .i64 n] w' fun e w6=>e = .returned (.tuple #[.int .i64 x,.int .i64 y])∧PStep w1 p q M F G w6) from hn5)
 clear hk5 hn5 HT1 c0 c1 c2 c4
 have c1:w5.cell? ⟨w.heap.size,1,none⟩ = some (.int .i64 sd):=by rw [cell_blk hB5];rfl
 have c2:w5.cell? ⟨w.heap.size,2,none⟩ = some (.int .i64 r):=by rw [cell_blk hB5];rfl
 have c4:w5.cell? ⟨w.heap.size,4,none⟩ = some (.int .i64 n):=by rw [cell_blk hB5];rfl
 clear hB5
 go_wp2_with fail
 refine Calls.mono (HN.out w5 (Below.refl _ _)) ?_
 rintro e w6 ⟨rfl,hS6⟩
 have H6:Hid (PStep w p q M F G w6):=hS6.of_below H1.out.1
 clear hS6 HN H1 c1 c2 c4
 go_wp2_with fail
 go_ret
 exact ⟨rfl,H6.out⟩
set_option maxHeartbeats 4000000 in
set_option maxRecDepth 20000 in
theorem both_11 (S:PS w p q M F G) (hl:M.last + 1 ≤ 100000) (sd r qq n:Int):Calls Tryz.prog 23 #[.pointer (some ⟨p,0,none⟩),.pointer (some ⟨q,0,none⟩),.agg #[.int .i64 11,.int .i64 sd,.int .i64 r,.int .i64 qq,.int .i64 n]] w fun e w'=>e = .returned (.bool true)∧PStep w p q M F G w':=by
 have hFl:∀ b,F b∨G b→b < w.heap.size:=fun b hb=>hb.elim (S.W.lt b) (S.R.lt b)
 have HFl:=(show Hid (∀ b,F b∨G b→b < w.heap.size) from hFl)
 obtain ⟨k,hk⟩:∃ k,k = IntKind.u8.wrap n:=⟨_,rfl⟩
 have hk2:0 ≤ k∧k ≤ 255:=by rw [hk];simp [IntKind.wrap,IntKind.signed,IntKind.bits];omega
 have HT:Hid (∀ w',Below w.heap.size w w'→Two2 w' p q M F G 14 #[.pointer (some ⟨p,0,none⟩),.agg #[.int .u8 k,.int .i64 sd,.int .u8 0,.int .i64 0,.string ⟨#[]⟩,.slice none 0 0,.int .i64 0,.slice none 0 0,.int .i64 0,.int .i64 0,.int .i64 0,.int .i64 0,.int .u8 0,.bool false,.slice none 0 0,.slice none 0 0]] 15 #[.pointer (some ⟨q,0,none⟩),.agg (thc (lt k sd 0 0 0 0 0 0 0 false))]):=fun w' hb=>make2 (S.below hb) hl sd hk2
 have hwk:IntKind.u8.wrap n = k:=hk.symm
 clear S hl hFl hk hk2
 have H1:Hid (Below w.heap.size w (w.alloc (.cells #[.int .i64 11,.int .i64 sd,.int .i64 r,.int .i64 qq,.int .i64 n] 62))∧(w.alloc (.cells #[.int .i64 11,.int .i64 sd,.int .i64 r,.int .i64 qq,.int .i64 n] 62)).heap[w.heap.size]? = some (.cells #[.int .i64 11,.int .i64 sd,.int .i64 r,.int .i64 qq,.int .i64 n] 62 (0,0))):=⟨(Below.refl _ w).alloc (Nat.le_refl _) _,blk_new _ _⟩
 go_enter Tryz.func23,Tryz.ntmps23
 go_upto_region 1 with fail
 revert H1
 generalize w.alloc _ = w1
 intro H1
 have c0:w1.cell? ⟨w.heap.size,0,none⟩ = some (.int .i64 11):=by rw [cell_blk H1.out.2];rfl
 have c1:w1.cell? ⟨w.heap.size,1,none⟩ = some (.int .i64 sd):=by rw [cell_blk H1.out.2];rfl
 have c4:w1.cell? ⟨w.heap.size,4,none⟩ = some (.int .i64 n):=by rw [cell_blk H1.out.2];rfl
 obtain ⟨w3,hst,hb3,hg3,-⟩:=boxed_what' w1 (thc (lt k sd 0 0 0 0 0 0 0 false)) rfl (by rw [thc_lt];simp [go_sem])
 have H3:Hid (Below w.heap.size w w3∧w3.heap[w1.heap.size]? = some (.cells (thc (lt k sd 0 0 0 0 0 0 0 false)) 46 (0,0))∧w.heap.size ≤ w1.heap.size):=⟨H1.out.1.trans (hb3.mono H1.out.1.size),hg3,H1.out.1.size⟩
 have l3:=loadWhat_blk hg3 rfl
 have HT1:=(show Hid (Two2 w3 p q M F G 14 #[.pointer (some ⟨p,0,none⟩),.agg #[.int .u8 k,.int .i64 sd,.int .u8 0,.int .i64 0,.string ⟨#[]⟩,.slice none 0 0,.int .i64 0,.slice none 0 0,.int .i64 0,.int .i64 0,.int .i64 0,.int .i64 0,.int .u8 0,.bool false,.slice none 0 0,.slice none 0 0]] 15 #[.pointer (some ⟨q,0,none⟩),.agg (thc (lt k sd 0 0 0 0 0 0 0 false))]) from HT.out w3 H3.out.1)
 rw [thc_lt] at hst l3
 clear HT hb3 hg3 H1
 go_wp2_with fail
 refine Calls.mono HT1.out ?_
 rintro e w5 ⟨x,y,rfl,hk5,hn5⟩
 have hB5:=(hk5.block _ (blk_lt H3.out.2.1) (fun h=>by have:=HFl.out _ h;have:=H3.out.2.2;omega)).trans H3.out.2.1
 have HN:=(show Hid (∀ w',Below w5.heap.size w5 w'→Calls Tryz.prog 15 #[.pointer (some ⟨q,0,none⟩),.agg (thc (lt k sd 0 0 0 0 0 0 0 false))] w' fun e w6=>e = .returned (.tuple #[.int .i64 x,.int .i64 y])∧PStep w3 p q M F G w6) from hn5)
 have l5:=loadWhat_blk hB5 rfl
 rw [thc_lt] at l5
 clear hk5 hn5 HT1 hB5 c0 c1 c4 l3 hst
 go_wp2_with fail
 refine Calls.mono (HN.out w5 (Below.refl _ _)) ?_
 rintro e w6 ⟨rfl,hS6⟩
 have H6:Hid (PStep w p q M F G w6):=hS6.of_below H3.out.1
 clear hS6 HN H3 l5
 go_wp2_with fail
 go_ret
 exact ⟨rfl,H6.out⟩
def KD (x:Int) (w:World) (p q:Nat) (M:WM) (F G:Nat→Prop) (r:Int) (w':World):Prop :=
 ∀ w'',Below w'.heap.size w' w''→∀ b c,w''.cell? ⟨b,0,none⟩ = some (.int .i64 r)→b < w''.heap.size→Calls Tryz.prog 106 #[.pointer (some ⟨q,0,none⟩),.slice (some ⟨b,0,none⟩) 1 c] w'' fun e w6=>e = .returned (.int .i64 x)∧PStep w p q M F G w6∧Keeps G w'' w6
theorem DropTwo.stage {x:Int} {w w7:World} {r:Int} (h:DropTwo x w7 p q M F G r) {b c:Nat} (hc:w7.cell? ⟨b,0,none⟩ = some (.int .i64 r)) (hb:b < w7.heap.size) (hbw:Below w.heap.size w w7) :
 Calls Tryz.prog 105 #[.pointer (some ⟨p,0,none⟩),.slice (some ⟨b,0,none⟩) 1 c] w7 fun e w8=>e = .returned (.int .i64 x)∧Keeps (fun b=>F b∨G b) w7 w8∧KD x w p q M F G r w8 :=
 (h b c hc hb).mono fun _ _ ⟨h1,h2,h3⟩=>⟨h1,h2,fun w'' hb2 b' c' hc' hbl=>(h3 w'' hb2 b' c' hc' hbl).mono fun _ _ ⟨k1,k2,k3⟩=>⟨k1,k2.of_below hbw,k3⟩⟩
def MvP (B5 p q:Nat) (r qq x:Int) (_ j:Nat) (v:Value) (_:World):Prop :=
 match j with
 | 0=>v = .pointer (some ⟨p,0,none⟩)
 | 1=>v = .pointer (some ⟨B5,2,none⟩)
 | 2=>v = .int .i64 r
 | 3=>v = .pointer (some ⟨B5,3,none⟩)
 | 4=>v = .int .i64 qq
 | 5=>v = .int .i64 x
 | 6=>v = .pointer (some ⟨q,0,none⟩)
 | 7=>v = .pointer (some ⟨B5,2,none⟩)
 | 8=>v = .int .i64 r
 | 9=>v = .pointer (some ⟨B5,3,none⟩)
 | 10=>v = .int .i64 qq
 | 11=>v = .int .i64 x
 | _=>True
theorem MvP.stab {B5 p q:Nat} {r qq x:Int}:∀ (s j:Nat) (v:Value) (w w':World),Below w.heap.size w w'→MvP B5 p q r qq x s j v w→MvP B5 p q r qq x s j v w':=by
 intro s j v w w' _ h
 unfold MvP at h ⊢
 split at h
 ·exact h
 ·exact h
 ·exact h
 ·exact h
 ·exact h
 ·exact h
 ·exact h
 ·exact h
 ·exact h
 ·exact h
 ·exact h
 ·exact h
 ·trivial
theorem MvP.turn1 {B5 p q:Nat} {r qq x:Int}:∀ (j:Nat) (v:Value) (w w':World),j ≠ 5→MvP B5 p q r qq x 0 j v w→MvP B5 p q r qq x 1 j v w':=by
 intro j v w w' hne h
 unfold MvP at h ⊢
 split at h
 ·exact h
 ·exact h
 ·exact h
 ·exact h
 ·exact h
 ·exact absurd rfl hne
 ·exact h
 ·exact h
 ·exact h
 ·exact h
 ·exact h
 ·exact h
 ·trivial
theorem MvP.turn2 {B5 p q:Nat} {r qq x:Int}:∀ (j:Nat) (v:Value) (w w':World),j ≠ 11→MvP B5 p q r qq x 1 j v w→MvP B5 p q r qq x 2 j v w':=by
 intro j v w w' hne h
 unfold MvP at h ⊢
 split at h
 ·exact h
 ·exact h
 ·exact h
 ·exact h
 ·exact h
 ·exact h
 ·exact h
 ·exact h
 ·exact h
 ·exact h
 ·exact h
 ·exact absurd rfl hne
 ·trivial
set_option maxHeartbeats 4000000 in
set_option maxRecDepth 20000 in
theorem both_4 (S:PS w p q M F G) (hl:M.last + 1 ≤ 100000) (sd n:Int) {r qq:Int} (hr:(Lit.int .i64 r).wf = true) (hqq:(Lit.int .i64 qq).wf = true):Calls Tryz.prog 23 #[.pointer (some ⟨p,0,none⟩),.pointer (some ⟨q,0,none⟩),.agg #[.int .i64 4,.int .i64 sd,.int .i64 r,.int .i64 qq,.int .i64 n]] w fun e w'=>e = .returned (.bool true)∧PStep w p q M F G w':=by
 have hFl:∀ b,F b∨G b→b < w.heap.size:=fun b hb=>hb.elim (S.W.lt b) (S.R.lt b)
 have HFl:=(show Hid (∀ b,F b∨G b→b < w.heap.size) from hFl)
 obtain ⟨x,hx⟩:∃ x,x = moveX M r qq:=⟨_,rfl⟩
 have HT:Hid (∀ w',Below w.heap.size w w'→Two1 x w' p q M F G 99 #[.pointer (some ⟨p,0,none⟩),.int .i64 r,.int .i64 qq] 104 #[.pointer (some ⟨q,0,none⟩),.int .i64 r,.int .i64 qq]):=fun w' hb=>by rw [hx];exact move2 (S.below hb) hl hr hqq
 clear S hl hr hqq hFl hx
 have H1:Hid (Below w.heap.size w (w.alloc (.cells #[.int .i64 4,.int .i64 sd,.int .i64 r,.int .i64 qq,.int .i64 n] 62))∧(w.alloc (.cells #[.int .i64 4,.int .i64 sd,.int .i64 r,.int .i64 qq,.int .i64 n] 62)).heap[w.heap.size]? = some (.cells #[.int .i64 4,.int .i64 sd,.int .i64 r,.int .i64 qq,.int .i64 n] 62 (0,0))):=⟨(Below.refl _ w).alloc (Nat.le_refl _) _,blk_new _ _⟩
 go_enter Tryz.func23,Tryz.ntmps23
 go_upto_region 1 with fail
 revert H1
 generalize w.alloc _ = w1
 intro H1
 have c0:w1.cell? ⟨w.heap.size,0,none⟩ = some (.int .i64 4):=by rw [cell_blk H1.out.2];rfl
 have c2:w1.cell? ⟨w.heap.size,2,none⟩ = some (.int .i64 r):=by rw [cell_blk H1.out.2];rfl
 have c3:w1.cell? ⟨w.heap.size,3,none⟩ = some (.int .i64 qq):=by rw [cell_blk H1.out.2];rfl
 have HC:Hid (w1.cell? ⟨w.heap.size,2,none⟩ = some (.int .i64 r)∧w1.cell? ⟨w.heap.size,3,none⟩ = some (.int .i64 qq)):=⟨c2,c3⟩
 clear c2 c3
 obtain ⟨B5,hB5⟩:∃ B,B = w.heap.size:=⟨_,rfl⟩
 have HB5:Hid (w.heap.size ≤ B5):=by show _ ≤ _;omega
 rw [← hB5] at HC c0 ⊢
 clear hB5
 go_upto_region 15 with fail
 clear c0
 refine wp_region_twoK 12 5 11 (by kernel_rfl) rfl (by kernel_rfl) (by kernel_rfl) (by kernel_rfl) (fun a b=>Below a.heap.size a b) (MvP B5 p q r qq x) (TwoC w w1 (K1 x w p q M F G 104 #[.pointer (some ⟨q,0,none⟩),.int .i64 r,.int .i64 qq]) (PStep w p q M F G)) MvP.stab (TwoC.start H1.out.1) TwoC.stayK ?_ ?_ ?_ ?_ ?_
 ·exact fun _ _ _ _ _ h1 h2=>noGuard (by kernel_rfl) h1 h2
 ·intro s j q a w7 hne1 hne2 hq hC hG
  have hj:j < 12:=(List.getElem?_eq_some_iff.1 hq).1
  match j,hj with
  | 0,_=>cases hq;have h0':a.tmps[0]?.getD undef = .pointer (some ⟨p,0,none⟩):=gq (hG.fr 0 (by simp));unfold Oper.wp;simp [go_sem,Act.eval,h0'];exact ⟨_,rfl,Below.refl _ _,rfl⟩
  | 1,_=>cases hq;have h5':a.tmps[5]?.getD undef = .pointer (some ⟨B5,0,none⟩):=gq (hG.fr 5 (by simp));unfold Oper.wp;simp [go_sem,Act.eval,h5'];exact ⟨_,rfl,Below.refl _ _,rfl⟩
  | 2,_ =>
    cases hq
    have h111':a.tmps[111]?.getD undef = .pointer (some ⟨B5,2,none⟩):=gq (hG.dep ⟨1,.data⟩ (by simp) rfl _ rfl)
    have c3:w7.cell? ⟨B5,2,none⟩ = some (.int .i64 r):=hC.cell HB5.out HC.out.1
    unfold Oper.wp
    simp [go_sem,Act.eval,h111',c3]
    exact ⟨_,rfl,Below.refl _ _,rfl⟩
  | 3,_=>cases hq;have h5':a.tmps[5]?.getD undef = .pointer (some ⟨B5,0,none⟩):=gq (hG.fr 5 (by simp));unfold Oper.wp;simp [go_sem,Act.eval,h5'];exact ⟨_,rfl,Below.refl _ _,rfl⟩
  | 4,_ =>
    cases hq
    have h113':a.tmps[113]?.getD undef = .pointer (some ⟨B5,3,none⟩):=gq (hG.dep ⟨3,.data⟩ (by simp) rfl _ rfl)
    have c3:w7.cell? ⟨B5,3,none⟩ = some (.int .i64 qq):=hC.cell HB5.out HC.out.2
    unfold Oper.wp
    simp [go_sem,Act.eval,h113',c3]
    exact ⟨_,rfl,Below.refl _ _,rfl⟩
  | 5,_=>exact absurd rfl hne1
  | 6,_=>cases hq;have h1':a.tmps[1]?.getD undef = .pointer (some ⟨q,0,none⟩):=gq (hG.fr 1 (by simp));unfold Oper.wp;simp [go_sem,Act.eval,h1'];exact ⟨_,rfl,Below.refl _ _,rfl⟩
  | 7,_=>cases hq;have h5':a.tmps[5]?.getD undef = .pointer (some ⟨B5,0,none⟩):=gq (hG.fr 5 (by simp));unfold Oper.wp;simp [go_sem,Act.eval,h5'];exact ⟨_,rfl,Below.refl _ _,rfl⟩
  | 8,_ =>
    cases hq
    have h117':a.tmps[117]?.getD undef = .pointer (some ⟨B5,2,none⟩):=gq (hG.dep ⟨7,.data⟩ (by simp) rfl _ rfl)
    have c3:w7.cell? ⟨B5,2,none⟩ = some (.int .i64 r):=hC.cell HB5.out HC.out.1
    unfold Oper.wp
    simp [go_sem,Act.eval,h117',c3]
    exact ⟨_,rfl,Below.refl _ _,rfl⟩
  | 9,_=>cases hq;have h5':a.tmps[5]?.getD undef = .pointer (some ⟨B5,0,none⟩):=gq (hG.fr 5 (by simp));unfold Oper.wp;simp [go_sem,Act.eval,h5'];exact ⟨_,rfl,Below.refl _ _,rfl⟩
  | 10,_ =>
    cases hq
    have h119':a.tmps[119]?.getD undef = .pointer (some ⟨B5,3,none⟩):=gq (hG.dep ⟨9,.data⟩ (by simp) rfl _ rfl)
    have c3:w7.cell? ⟨B5,3,none⟩ = some (.int .i64 qq):=hC.cell HB5.out HC.out.2
    unfold Oper.wp
    simp [go_sem,Act.eval,h119',c3]
    exact ⟨_,rfl,Below.refl _ _,rfl⟩
  | 11,_=>exact absurd rfl hne2
 ·intro q a w7 hq hC hG
  cases hq
  have h110':a.tmps[110]?.getD undef = .pointer (some ⟨p,0,none⟩):=gq (hG.dep ⟨0,.data⟩ (by simp) rfl _ rfl)
  have h112':a.tmps[112]?.getD undef = .int .i64 r:=gq (hG.dep ⟨2,.data⟩ (by simp) rfl _ rfl)
  have h114':a.tmps[114]?.getD undef = .int .i64 qq:=gq (hG.dep ⟨4,.data⟩ (by simp) rfl _ rfl)
  unfold Oper.wp
  simp [go_sem,callFunc,Act.eval,Tryz.func99,h110',h112',h114']
  refine Calls.mono ((HT.out w7 hC.2.2).stage hC.2.2) ?_
  rintro e w8 ⟨rfl,hk8,hn8⟩
  exact ⟨_,rfl,hC.one hk8 HFl.out hn8,rfl,fun j u hne h=>MvP.turn1 j u _ _ hne h⟩
 ·intro q a w7 hq hC hG
  cases hq
  have h116':a.tmps[116]?.getD undef = .pointer (some ⟨q,0,none⟩):=gq (hG.dep ⟨6,.data⟩ (by simp) rfl _ rfl)
  have h118':a.tmps[118]?.getD undef = .int .i64 r:=gq (hG.dep ⟨8,.data⟩ (by simp) rfl _ rfl)
  have h120':a.tmps[120]?.getD undef = .int .i64 qq:=gq (hG.dep ⟨10,.data⟩ (by simp) rfl _ rfl)
  unfold Oper.wp
  simp [go_sem,callFunc,Act.eval,Tryz.func104,h116',h118',h120']
  refine Calls.mono (hC.2.2 w7 (Below.refl _ _)) ?_
  rintro e w8 ⟨rfl,hS8,hk8⟩
  exact ⟨_,rfl,hC.two hk8 (fun b h=>HFl.out b (.inr h)) hS8,rfl,fun j u hne h=>MvP.turn2 j u _ _ hne h⟩
 ·intro a w7 hC hdf hsz hfr hphi
  have e0:a.tmps.getD 110 undef = .pointer (some ⟨p,0,none⟩):=hphi 0 _ rfl
  have e1:a.tmps.getD 111 undef = .pointer (some ⟨B5,2,none⟩):=hphi 1 _ rfl
  have e2:a.tmps.getD 112 undef = .int .i64 r:=hphi 2 _ rfl
  have e3:a.tmps.getD 113 undef = .pointer (some ⟨B5,3,none⟩):=hphi 3 _ rfl
  have e4:a.tmps.getD 114 undef = .int .i64 qq:=hphi 4 _ rfl
  have e5:a.tmps.getD 115 undef = .int .i64 x:=hphi 5 _ rfl
  have e6:a.tmps.getD 116 undef = .pointer (some ⟨q,0,none⟩):=hphi 6 _ rfl
  have e7:a.tmps.getD 117 undef = .pointer (some ⟨B5,2,none⟩):=hphi 7 _ rfl
  have e8:a.tmps.getD 118 undef = .int .i64 r:=hphi 8 _ rfl
  have e9:a.tmps.getD 119 undef = .pointer (some ⟨B5,3,none⟩):=hphi 9 _ rfl
  have e10:a.tmps.getD 120 undef = .int .i64 qq:=hphi 10 _ rfl
  have e11:a.tmps.getD 121 undef = .int .i64 x:=hphi 11 _ rfl
  have ha:=act_of hdf hsz hfr
  simp only [List.take_succ_cons,List.take_zero,List.filterMap_cons,List.filterMap_nil,List.foldl_cons,List.foldl_nil,List.setIfInBounds_toArray,List.set_cons_zero,List.set_cons_succ,e0,e1,e2,e3,e4,e5,e6,e7,e8,e9,e10,e11] at ha
  clear hdf hsz hfr hphi e0 e1 e2 e3 e4 e5 e6 e7 e8 e9 e10 e11
  subst ha
  have HD:Hid (PStep w p q M F G w7):=hC.2.2
  clear hC
  refine ⟨rfl,?_⟩
  unfold Oper.wp
  simp [execOp,go_sem,Act.eval,wpTailG]
  refine ‹∀ (a:Act) (w:World),Code.wp Tryz.prog _ _ a w→_› _ _ ?_
  go_wp2_with fail
  go_ret
  exact ⟨rfl,HD.out⟩
def DpP (B0 B5 p q:Nat) (r x:Int) (s j:Nat) (v:Value) (wx:World):Prop :=
 match j with
 | 0=>v = .pointer (some ⟨p,0,none⟩)
 | 1=>v = .pointer (some ⟨B5,2,none⟩)
 | 2=>v = .int .i64 r
 | 3=>∃ g,v = .slice (some ⟨g,0,none⟩) 1 1∧(s < 2→B0 ≤ g∧wx.heap[g]? = some (.cells #[.int .i64 r] 25 (0,0)))
 | 4=>v = .int .i64 x
 | 5=>v = .pointer (some ⟨q,0,none⟩)
 | 6=>v = .pointer (some ⟨B5,2,none⟩)
 | 7=>v = .int .i64 r
 | 8=>∃ g,v = .slice (some ⟨g,0,none⟩) 1 1∧(s < 2→B0 ≤ g∧wx.heap[g]? = some (.cells #[.int .i64 r] 25 (0,0)))
 | 9=>v = .int .i64 x
 | _=>True
theorem DpP.stab {B0 B5 p q:Nat} {r x:Int}:∀ (s j:Nat) (v:Value) (w w':World),Below w.heap.size w w'→DpP B0 B5 p q r x s j v w→DpP B0 B5 p q r x s j v w':=by
 intro s j v w w' hR h
 unfold DpP at h ⊢
 split at h
 ·exact h
 ·exact h
 ·exact h
 ·obtain ⟨g,h1,h2⟩:=h
  exact ⟨g,h1,fun hs=>⟨(h2 hs).1,below_blk hR (h2 hs).2⟩⟩
 ·exact h
 ·exact h
 ·exact h
 ·exact h
 ·obtain ⟨g,h1,h2⟩:=h
  exact ⟨g,h1,fun hs=>⟨(h2 hs).1,below_blk hR (h2 hs).2⟩⟩
 ·exact h
 ·trivial
theorem DpP.turn1 {B0 B5 p q:Nat} {r x:Int}:∀ (j:Nat) (v:Value) (w w':World),j ≠ 4→(∀ g o,B0 ≤ g→w.heap[g]? = some o→w'.heap[g]? = some o)→DpP B0 B5 p q r x 0 j v w→DpP B0 B5 p q r x 1 j v w':=by
 intro j v w w' hne hk h
 unfold DpP at h ⊢
 split at h
 ·exact h
 ·exact h
 ·exact h
 ·obtain ⟨g,h1,h2⟩:=h
  have h2:=h2 (by decide)
  exact ⟨g,h1,fun _=>⟨h2.1,hk g _ h2.1 h2.2⟩⟩
 ·exact absurd rfl hne
 ·exact h
 ·exact h
 ·exact h
 ·obtain ⟨g,h1,h2⟩:=h
  have h2:=h2 (by decide)
  exact ⟨g,h1,fun _=>⟨h2.1,hk g _ h2.1 h2.2⟩⟩
 ·exact h
 ·trivial
theorem DpP.turn2 {B0 B5 p q:Nat} {r x:Int}:∀ (j:Nat) (v:Value) (w w':World),j ≠ 9→DpP B0 B5 p q r x 1 j v w→DpP B0 B5 p q r x 2 j v w':=by
 intro j v w w' hne h
 unfold DpP at h ⊢
 split at h
 ·exact h
 ·exact h
 ·exact h
 ·obtain ⟨g,h1,-⟩:=h
  exact ⟨g,h1,fun h=>absurd h (by decide)⟩
 ·exact h
 ·exact h
 ·exact h
 ·exact h
 ·obtain ⟨g,h1,-⟩:=h
  exact ⟨g,h1,fun h=>absurd h (by decide)⟩
 ·exact absurd rfl hne
 ·trivial
set_option maxHeartbeats 4000000 in
set_option maxRecDepth 20000 in
theorem both_9 (S:PS w p q M F G) (hl:M.last + 1 ≤ 100000) (sd qq n:Int) {r:Int} (hr:(Lit.int .i64 r).wf = true):Calls Tryz.prog 23 #[.pointer (some ⟨p,0,none⟩),.pointer (some ⟨q,0,none⟩),.agg #[.int .i64 9,.int .i64 sd,.int .i64 r,.int .i64 qq,.int .i64 n]] w fun e w'=>e = .returned (.bool true)∧PStep w p q M F G w':=by
 have hFl:∀ b,F b∨G b→b < w.heap.size:=fun b hb=>hb.elim (S.W.lt b) (S.R.lt b)
 have HFl:=(show Hid (∀ b,F b∨G b→b < w.heap.size) from hFl)
 obtain ⟨x,hx⟩:=drop2 (p:=p) (q:=q) (F:=F) (G:=G) S.pp (by omega) hr
 have HT:Hid (∀ w',Below w.heap.size w w'→DropTwo x w' p q M F G r):=fun w' hb=>hx w' (S.below hb)
 clear S hl hr hFl hx
 have H1:Hid (Below w.heap.size w (w.alloc (.cells #[.int .i64 9,.int .i64 sd,.int .i64 r,.int .i64 qq,.int .i64 n] 62))∧(w.alloc (.cells #[.int .i64 9,.int .i64 sd,.int .i64 r,.int .i64 qq,.int .i64 n] 62)).heap[w.heap.size]? = some (.cells #[.int .i64 9,.int .i64 sd,.int .i64 r,.int .i64 qq,.int .i64 n] 62 (0,0))):=⟨(Below.refl _ w).alloc (Nat.le_refl _) _,blk_new _ _⟩
 go_enter Tryz.func23,Tryz.ntmps23
 go_upto_region 1 with fail
 revert H1
 generalize w.alloc _ = w1
 intro H1
 have c0:w1.cell? ⟨w.heap.size,0,none⟩ = some (.int .i64 9):=by rw [cell_blk H1.out.2];rfl
 have c2:w1.cell? ⟨w.heap.size,2,none⟩ = some (.int .i64 r):=by rw [cell_blk H1.out.2];rfl
 have HC:Hid (w1.cell? ⟨w.heap.size,2,none⟩ = some (.int .i64 r)):=c2
 clear c2
 obtain ⟨B5,hB5⟩:∃ B,B = w.heap.size:=⟨_,rfl⟩
 have HB5:Hid (w.heap.size ≤ B5∧B5 ≤ w.heap.size):=by show _∧_;omega
 rw [← hB5] at HC c0 ⊢
 clear hB5
 go_upto_region 17 with fail
 clear c0
 obtain ⟨B0,hB0⟩:∃ B,B = B5:=⟨_,rfl⟩
 have HB0:Hid (w.heap.size ≤ B0∧B0 ≤ w1.heap.size):=by have:=HB5.out;have:=H1.out.1.size;show _∧_;omega
 clear hB0
 refine wp_region_twoK 10 4 9 (by kernel_rfl) rfl (by kernel_rfl) (by kernel_rfl) (by kernel_rfl) (fun a b=>Below a.heap.size a b) (DpP B0 B5 p q r x) (TwoC w w1 (KD x w p q M F G r) (PStep w p q M F G)) DpP.stab (TwoC.start H1.out.1) (TwoC.stay (fun a b hb hk w'' hb2=>hk w'' (hb.trans (hb2.mono hb.size))) fun a b hb h=>h.below hb) ?_ ?_ ?_ ?_ ?_
 ·exact fun _ _ _ _ _ h1 h2=>noGuard (by kernel_rfl) h1 h2
 ·intro s j q a w7 hne1 hne2 hq hC hG
  have hj:j < 10:=(List.getElem?_eq_some_iff.1 hq).1
  match j,hj with
  | 0,_=>cases hq;have h0':a.tmps[0]?.getD undef = .pointer (some ⟨p,0,none⟩):=gq (hG.fr 0 (by simp));unfold Oper.wp;simp [go_sem,Act.eval,h0'];exact ⟨_,rfl,Below.refl _ _,rfl⟩
  | 1,_=>cases hq;have h5':a.tmps[5]?.getD undef = .pointer (some ⟨B5,0,none⟩):=gq (hG.fr 5 (by simp));unfold Oper.wp;simp [go_sem,Act.eval,h5'];exact ⟨_,rfl,Below.refl _ _,rfl⟩
  | 2,_ =>
    cases hq
    have h126':a.tmps[126]?.getD undef = .pointer (some ⟨B5,2,none⟩):=gq (hG.dep ⟨1,.data⟩ (by simp) rfl _ rfl)
    have c3:w7.cell? ⟨B5,2,none⟩ = some (.int .i64 r):=hC.cell HB5.out.1 HC.out
    unfold Oper.wp
    simp [go_sem,Act.eval,h126',c3]
    exact ⟨_,rfl,Below.refl _ _,rfl⟩
  | 3,_ =>
    cases hq
    have h127':a.tmps[127]?.getD undef = .int .i64 r:=gq (hG.dep ⟨2,.data⟩ (by simp) rfl _ rfl)
    have hB:B0 ≤ w7.heap.size:=Nat.le_trans HB0.out.2 hC.2.1
    unfold Oper.wp
    simp [go_sem,Act.eval,h127']
    exact ⟨_,rfl,(Below.refl _ _).alloc (Nat.le_refl _) _,w7.heap.size,rfl,fun _=>⟨hB,blk_new _ _⟩⟩
  | 4,_=>exact absurd rfl hne1
  | 5,_=>cases hq;have h1':a.tmps[1]?.getD undef = .pointer (some ⟨q,0,none⟩):=gq (hG.fr 1 (by simp));unfold Oper.wp;simp [go_sem,Act.eval,h1'];exact ⟨_,rfl,Below.refl _ _,rfl⟩
  | 6,_=>cases hq;have h5':a.tmps[5]?.getD undef = .pointer (some ⟨B5,0,none⟩):=gq (hG.fr 5 (by simp));unfold Oper.wp;simp [go_sem,Act.eval,h5'];exact ⟨_,rfl,Below.refl _ _,rfl⟩
  | 7,_ =>
    cases hq
    have h131':a.tmps[131]?.getD undef = .pointer (some ⟨B5,2,none⟩):=gq (hG.dep ⟨6,.data⟩ (by simp) rfl _ rfl)
    have c3:w7.cell? ⟨B5,2,none⟩ = some (.int .i64 r):=hC.cell HB5.out.1 HC.out
    unfold Oper.wp
    simp [go_sem,Act.eval,h131',c3]
    exact ⟨_,rfl,Below.refl _ _,rfl⟩
  | 8,_ =>
    cases hq
    have h132':a.tmps[132]?.getD undef = .int .i64 r:=gq (hG.dep ⟨7,.data⟩ (by simp) rfl _ rfl)
    have hB:B0 ≤ w7.heap.size:=Nat.le_trans HB0.out.2 hC.2.1
    unfold Oper.wp
    simp [go_sem,Act.eval,h132']
    exact ⟨_,rfl,(Below.refl _ _).alloc (Nat.le_refl _) _,w7.heap.size,rfl,fun _=>⟨hB,blk_new _ _⟩⟩
  | 9,_=>exact absurd rfl hne2
 ·intro q a w7 hq hC hG
  cases hq
  have h125':a.tmps[125]?.getD undef = .pointer (some ⟨p,0,none⟩):=gq (hG.dep ⟨0,.data⟩ (by simp) rfl _ rfl)
  obtain ⟨g128,h128,b128⟩:=hG.dep ⟨3,.data⟩ (by simp) rfl _ rfl
  have h128':a.tmps[128]?.getD undef = .slice (some ⟨g128,0,none⟩) 1 1:=gq (h128)
  unfold Oper.wp
  simp [go_sem,callFunc,Act.eval,Tryz.func105,h125',h128']
  refine Calls.mono ((HT.out w7 hC.2.2).stage (by rw [cell_blk (b128 (by decide)).2];rfl) (blk_lt (b128 (by decide)).2) hC.2.2) ?_
  rintro e w8 ⟨rfl,hk8,hn8⟩
  exact ⟨_,rfl,hC.one hk8 HFl.out hn8,rfl,fun j u hne h=>DpP.turn1 j u _ _ hne (fun g o hg ho=>(hk8.block g (Array.getElem?_eq_some_iff.1 ho).1 (fun e=>by have:=HFl.out g e;have:=HB0.out.1;omega)).trans ho) h⟩
 ·intro q a w7 hq hC hG
  cases hq
  have h130':a.tmps[130]?.getD undef = .pointer (some ⟨q,0,none⟩):=gq (hG.dep ⟨5,.data⟩ (by simp) rfl _ rfl)
  obtain ⟨g133,h133,b133⟩:=hG.dep ⟨8,.data⟩ (by simp) rfl _ rfl
  have h133':a.tmps[133]?.getD undef = .slice (some ⟨g133,0,none⟩) 1 1:=gq (h133)
  unfold Oper.wp
  simp [go_sem,callFunc,Act.eval,Tryz.func106,h130',h133']
  refine Calls.mono (hC.2.2 w7 (Below.refl _ _) _ _ (by rw [cell_blk (b133 (by decide)).2];rfl) (blk_lt (b133 (by decide)).2)) ?_
  rintro e w8 ⟨rfl,hS8,hk8⟩
  exact ⟨_,rfl,hC.two hk8 (fun b h=>HFl.out b (.inr h)) hS8,rfl,fun j u hne h=>DpP.turn2 j u _ _ hne h⟩
 ·intro a w7 hC hdf hsz hfr hphi
  have e0:a.tmps.getD 125 undef = .pointer (some ⟨p,0,none⟩):=hphi 0 _ rfl
  have e1:a.tmps.getD 126 undef = .pointer (some ⟨B5,2,none⟩):=hphi 1 _ rfl
  have e2:a.tmps.getD 127 undef = .int .i64 r:=hphi 2 _ rfl
  obtain ⟨g128,e3,-⟩:=hphi 3 _ rfl
  have e3:a.tmps.getD 128 undef = .slice (some ⟨g128,0,none⟩) 1 1:=e3
  have e4:a.tmps.getD 129 undef = .int .i64 x:=hphi 4 _ rfl
  have e5:a.tmps.getD 130 undef = .pointer (some ⟨q,0,none⟩):=hphi 5 _ rfl
  have e6:a.tmps.getD 131 undef = .pointer (some ⟨B5,2,none⟩):=hphi 6 _ rfl
  have e7:a.tmps.getD 132 undef = .int .i64 r:=hphi 7 _ rfl
  obtain ⟨g133,e8,-⟩:=hphi 8 _ rfl
  have e8:a.tmps.getD 133 undef = .slice (some ⟨g133,0,none⟩) 1 1:=e8
  have e9:a.tmps.getD 134 undef = .int .i64 x:=hphi 9 _ rfl
  have ha:=act_of hdf hsz hfr
  simp only [List.take_succ_cons,List.take_zero,List.filterMap_cons,List.filterMap_nil,List.foldl_cons,List.foldl_nil,List.setIfInBounds_toArray,List.set_cons_zero,List.set_cons_succ,e0,e1,e2,e3,e4,e5,e6,e7,e8,e9] at ha
  clear hdf hsz hfr hphi e0 e1 e2 e3 e4 e5 e6 e7 e8 e9
  subst ha
  have HD:Hid (PStep w p q M F G w7):=hC.2.2
  clear hC
  refine ⟨rfl,?_⟩
  unfold Oper.wp
  simp [execOp,go_sem,Act.eval,wpTailG]
  refine ‹∀ (a:Act) (w:World),Code.wp Tryz.prog _ _ a w→_› _ _ ?_
  go_wp2_with fail
  go_ret
  exact ⟨rfl,HD.out⟩
theorem execOp_ldLwP153 (ρ:Operand→Value) (ty:TypeId) (pos:String) (af:Array Edge) (g:Option (Nat × Bool)) :
 execOp ρ { dst:=some 153,op:=.load 46 (.tmp 19),type:=ty,pos:=pos,after:=af,guard:=g } = ldW (ρ (.tmp 19)):=rfl
theorem execOp_ldLwP158 (ρ:Operand→Value) (ty:TypeId) (pos:String) (af:Array Edge) (g:Option (Nat × Bool)) :
 execOp ρ { dst:=some 158,op:=.load 46 (.tmp 19),type:=ty,pos:=pos,after:=af,guard:=g } = ldW (ρ (.tmp 19)):=rfl
def LwP (B5 p q:Nat) (r x k h n l tg:Int) (_ j:Nat) (v:Value) (_:World):Prop :=
 match j with
 | 0=>v = .pointer (some ⟨p,0,none⟩)
 | 1=>v = .pointer (some ⟨B5,2,none⟩)
 | 2=>v = .int .i64 r
 | 3=>v = .agg (thc (lt k h 0 0 n l tg 0 0 false))
 | 4=>v = .int .i64 x
 | 5=>v = .pointer (some ⟨q,0,none⟩)
 | 6=>v = .pointer (some ⟨B5,2,none⟩)
 | 7=>v = .int .i64 r
 | 8=>v = .agg (thc (lt k h 0 0 n l tg 0 0 false))
 | 9=>v = .int .i64 x
 | _=>True
theorem LwP.stab {B5 p q:Nat} {r x k h n l tg:Int}:∀ (s j:Nat) (v:Value) (w w':World),Below w.heap.size w w'→LwP B5 p q r x k h n l tg s j v w→LwP B5 p q r x k h n l tg s j v w':=by
 intro s j v w w' _ h
 unfold LwP at h ⊢
 split at h
 ·exact h
 ·exact h
 ·exact h
 ·exact h
 ·exact h
 ·exact h
 ·exact h
 ·exact h
 ·exact h
 ·exact h
 ·trivial
theorem LwP.turn1 {B5 p q:Nat} {r x k h n l tg:Int}:∀ (j:Nat) (v:Value) (w w':World),j ≠ 4→LwP B5 p q r x k h n l tg 0 j v w→LwP B5 p q r x k h n l tg 1 j v w':=by
 intro j v w w' hne h
 unfold LwP at h ⊢
 split at h
 ·exact h
 ·exact h
 ·exact h
 ·exact h
 ·exact absurd rfl hne
 ·exact h
 ·exact h
 ·exact h
 ·exact h
 ·exact h
 ·trivial
theorem LwP.turn2 {B5 p q:Nat} {r x k h n l tg:Int}:∀ (j:Nat) (v:Value) (w w':World),j ≠ 9→LwP B5 p q r x k h n l tg 1 j v w→LwP B5 p q r x k h n l tg 2 j v w':=by
 intro j v w w' hne h
 unfold LwP at h ⊢
 split at h
 ·exact h
 ·exact h
 ·exact h
 ·exact h
 ·exact h
 ·exact h
 ·exact h
 ·exact h
 ·exact h
 ·exact absurd rfl hne
 ·trivial
set_option maxHeartbeats 4000000 in
set_option maxRecDepth 20000 in
theorem both_10 (S:PS w p q M F G) (hl:M.last + 1 ≤ 100000) (sd qq n:Int) {r:Int} (hr:(Lit.int .i64 r).wf = true):Calls Tryz.prog 23 #[.pointer (some ⟨p,0,none⟩),.pointer (some ⟨q,0,none⟩),.agg #[.int .i64 10,.int .i64 sd,.int .i64 r,.int .i64 qq,.int .i64 n]] w fun e w'=>e = .returned (.bool true)∧PStep w p q M F G w':=by
 have hFl:∀ b,F b∨G b→b < w.heap.size:=fun b hb=>hb.elim (S.W.lt b) (S.R.lt b)
 have HFl:=(show Hid (∀ b,F b∨G b→b < w.heap.size) from hFl)
 have hQ:=S.pp.qok (by omega)
 have HAt:Hid (∀ w',Below w.heap.size w w'→Calls Tryz.prog 47 #[.pointer (some ⟨q,0,none⟩),.int .i64 r] w' fun e w''=>e = .returned (.tuple #[.agg (thc (at7 M r)),.bool (M.at r).isSome])∧Below w'.heap.size w' w''):=fun w' hb=>at7_W (S.R.below hb) hQ.good.ok.len r fun y hy=>(hQ.good.ok.cell y hy).1
 obtain ⟨B,hB⟩:∃ B,B = (M.at r).isSome:=⟨_,rfl⟩
 obtain ⟨k,h,n0,l,tg,h7,hat⟩:∃ k h n l tg,at7 M r = lt k h 0 0 n l tg 0 0 false∧(B = true→M.at r = some (lt k h 0 0 n l tg 0 0 false)):=by
  rcases S.pp.ltM.at r with ⟨e1,e2⟩ | ⟨k,h,n,l,tg,e1,e2⟩
  ·exact ⟨0,0,0,0,0,e2,fun e=>by rw [hB,e1] at e;cases e⟩
  ·exact ⟨k,h,n,l,tg,e2,fun _=>e1⟩
 have HT:Hid (B = true→∀ w',Below w.heap.size w w'→Two1 (layX k n l) w' p q M F G 107 #[.pointer (some ⟨p,0,none⟩),.int .i64 r,.agg #[.int .u8 k,.int .i64 h,.int .u8 0,.int .i64 0,.string ⟨#[]⟩,.slice none 0 0,.int .i64 0,.slice none 0 0,.int .i64 n,.int .i64 l,.int .i64 tg,.int .i64 0,.int .u8 0,.bool false,.slice none 0 0,.slice none 0 0]] 108 #[.pointer (some ⟨q,0,none⟩),.int .i64 r,.agg (thc (lt k h 0 0 n l tg 0 0 false))]):=fun e w' hb=>lay2 (S.below hb) (by omega) n hr (hat e)
 have HSb:Hid (∀ w',Below w.heap.size w w'→PStep w p q M F G w'):=fun w' hb=>S.same hb
 rw [← hB,h7] at HAt
 clear S hl hr hFl hQ hB h7 hat
 have H1:Hid (Below w.heap.size w (w.alloc (.cells #[.int .i64 10,.int .i64 sd,.int .i64 r,.int .i64 qq,.int .i64 n] 62))∧(w.alloc (.cells #[.int .i64 10,.int .i64 sd,.int .i64 r,.int .i64 qq,.int .i64 n] 62)).heap[w.heap.size]? = some (.cells #[.int .i64 10,.int .i64 sd,.int .i64 r,.int .i64 qq,.int .i64 n] 62 (0,0))):=⟨(Below.refl _ w).alloc (Nat.le_refl _) _,blk_new _ _⟩
 go_enter Tryz.func23,Tryz.ntmps23
 go_upto_region 1 with fail
 revert H1
 generalize w.alloc _ = w1
 intro H1
 have c0:w1.cell? ⟨w.heap.size,0,none⟩ = some (.int .i64 10):=by rw [cell_blk H1.out.2];rfl
 have c2:w1.cell? ⟨w.heap.size,2,none⟩ = some (.int .i64 r):=by rw [cell_blk H1.out.2];rfl
 go_wp2_with fail
 refine Calls.mono (HAt.out w1 H1.out.1) ?_
 rintro e w2 ⟨rfl,hb2⟩
 obtain ⟨w3,hst,hb3,hg3,-⟩:=boxed_what' w2 (thc (lt k h 0 0 n0 l tg 0 0 false)) rfl (by rw [thc_lt];simp [go_sem])
 have hb13:=hb2.trans (hb3.mono hb2.size)
 have H3:Hid (Below w.heap.size w w3∧w3.heap[w2.heap.size]? = some (.cells (thc (lt k h 0 0 n0 l tg 0 0 false)) 46 (0,0))∧w3.heap[w.heap.size]? = some (.cells #[.int .i64 10,.int .i64 sd,.int .i64 r,.int .i64 qq,.int .i64 n] 62 (0,0))∧w.heap.size ≤ w2.heap.size∧w.heap.size ≠ w2.heap.size):=⟨H1.out.1.trans (hb13.mono H1.out.1.size),hg3,below_blk hb13 H1.out.2,by have:=hb2.size;have:=H1.out.1.size;omega,by have:=hb2.size;have:=blk_lt H1.out.2;omega⟩
 clear hb2 hb3 hg3 hb13 HAt H1 c0 c2
 have c2:w3.cell? ⟨w.heap.size,2,none⟩ = some (.int .i64 r):=by rw [cell_blk H3.out.2.2.1];rfl
 have c4:w3.cell? ⟨w.heap.size,4,none⟩ = some (.int .i64 n):=by rw [cell_blk H3.out.2.2.1];rfl
 have f8:=frozen_blk H3.out.2.1 8
 have k8:w3.cell? ⟨w2.heap.size,8,none⟩ = some (.int .i64 n0):=by rw [cell_blk H3.out.2.1];rfl
 have hk4:=Keeps.setCell (S:=fun b=>b = w2.heap.size) w3 ⟨w2.heap.size,8,none⟩ (.int .i64 n) rfl
 have H4:Hid (∀ w4,w4 = w3.setCell ⟨w2.heap.size,8,none⟩ (.int .i64 n)→Below w.heap.size w w4∧w4.heap[w2.heap.size]? = some (.cells (thc (lt k h 0 0 n l tg 0 0 false)) 46 (0,0))∧w4.cell? ⟨w.heap.size,2,none⟩ = some (.int .i64 r)):=fun w4 e=>by
  subst e
  exact ⟨H3.out.1.trans (hk4.below H3.out.1.size fun b e=>by rw [e];exact H3.out.2.2.2.1),blk_setCell H3.out.2.1 8 (.int .i64 n),by rw [cell_blk (blk_other H3.out.2.2.1 _ _ H3.out.2.2.2.2)];rfl⟩
 clear hk4
 cases B with
 | false =>
   have H5:=(show Hid (_∧_) from H4.out _ rfl)
   clear H4 HT H3
   go_wp2_with fail
   go_ret
   exact ⟨rfl,HSb.out _ H5.out.1⟩
 | true =>
   have HT2:=(show Hid (∀ w',Below w.heap.size w w'→Two1 (layX k n l) w' p q M F G 107 #[.pointer (some ⟨p,0,none⟩),.int .i64 r,.agg #[.int .u8 k,.int .i64 h,.int .u8 0,.int .i64 0,.string ⟨#[]⟩,.slice none 0 0,.int .i64 0,.slice none 0 0,.int .i64 n,.int .i64 l,.int .i64 tg,.int .i64 0,.int .u8 0,.bool false,.slice none 0 0,.slice none 0 0]] 108 #[.pointer (some ⟨q,0,none⟩),.int .i64 r,.agg (thc (lt k h 0 0 n l tg 0 0 false))]) from HT.out rfl)
   clear HSb HT
   obtain ⟨x,hx⟩:∃ x,x = layX k n l:=⟨_,rfl⟩
   rw [← hx] at HT2
   clear hx
   go_upto_region 23 with fail
   clear f8 k8 c2 c4 hst
   revert H4
   generalize hw4:w3.setCell _ _ = w4
   intro H4
   have H4:=(show Hid (Below w.heap.size w w4∧w4.heap[w2.heap.size]? = some (.cells (thc (lt k h 0 0 n l tg 0 0 false)) 46 (0,0))∧w4.cell? ⟨w.heap.size,2,none⟩ = some (.int .i64 r)) from H4.out w4 rfl)
   clear hw4
   obtain ⟨B5,hB5⟩:∃ B,B = w.heap.size:=⟨_,rfl⟩
   obtain ⟨B6,hB6⟩:∃ B,B = w2.heap.size:=⟨_,rfl⟩
   have HC:Hid (w4.cell? ⟨B5,2,none⟩ = some (.int .i64 r)∧w.heap.size ≤ B5):=⟨by rw [hB5];exact H4.out.2.2,by omega⟩
   have HW:Hid (w4.heap[B6]? = some (.cells (thc (lt k h 0 0 n l tg 0 0 false)) 46 (0,0))∧w.heap.size ≤ B6):=⟨by rw [hB6];exact H4.out.2.1,by rw [hB6];exact H3.out.2.2.2.1⟩
   have HB4:Hid (Below w.heap.size w w4):=H4.out.1
   clear H4 H3
   rw [← hB5,← hB6]
   clear hB5 hB6
   refine wp_region_twoK 10 4 9 (by kernel_rfl) rfl (by kernel_rfl) (by kernel_rfl) (by kernel_rfl) (fun a b=>Below a.heap.size a b) (LwP B5 p q r x k h n l tg) (TwoC w w4 (K1 x w p q M F G 108 #[.pointer (some ⟨q,0,none⟩),.int .i64 r,.agg (thc (lt k h 0 0 n l tg 0 0 false))]) (PStep w p q M F G)) LwP.stab (TwoC.start HB4.out) TwoC.stayK ?_ ?_ ?_ ?_ ?_
   ·exact fun _ _ _ _ _ h1 h2=>noGuard (by kernel_rfl) h1 h2
   ·intro s j q a w7 hne1 hne2 hq hC hG
    have hj:j < 10:=(List.getElem?_eq_some_iff.1 hq).1
    match j,hj with
    | 0,_=>cases hq;have h0':a.tmps[0]?.getD undef = .pointer (some ⟨p,0,none⟩):=gq (hG.fr 0 (by simp));unfold Oper.wp;simp [go_sem,Act.eval,h0'];exact ⟨_,rfl,Below.refl _ _,rfl⟩
    | 1,_=>cases hq;have h5':a.tmps[5]?.getD undef = .pointer (some ⟨B5,0,none⟩):=gq (hG.fr 5 (by simp));unfold Oper.wp;simp [go_sem,Act.eval,h5'];exact ⟨_,rfl,Below.refl _ _,rfl⟩
    | 2,_ =>
      cases hq
      have h151':a.tmps[151]?.getD undef = .pointer (some ⟨B5,2,none⟩):=gq (hG.dep ⟨1,.data⟩ (by simp) rfl _ rfl)
      have c3:w7.cell? ⟨B5,2,none⟩ = some (.int .i64 r):=hC.cell HC.out.2 HC.out.1
      unfold Oper.wp
      simp [go_sem,Act.eval,h151',c3]
      exact ⟨_,rfl,Below.refl _ _,rfl⟩
    | 3,_ =>
      cases hq
      have h19:a.tmps.getD 19 undef = .pointer (some ⟨B6,0,none⟩):=hG.fr 19 (by simp)
      refine step_g (.agg (thc (lt k h 0 0 n l tg 0 0 false))) ?_ (Below.refl _ _) rfl
      rw [execOp_ldLwP153]
      show (ldW (a.tmps.getD 19 undef)).run _ _ = _
      rw [h19]
      exact loadWhat_blk ((hC.1 B6 HW.out.2 (blk_lt HW.out.1)).trans HW.out.1) rfl
    | 4,_=>exact absurd rfl hne1
    | 5,_=>cases hq;have h1':a.tmps[1]?.getD undef = .pointer (some ⟨q,0,none⟩):=gq (hG.fr 1 (by simp));unfold Oper.wp;simp [go_sem,Act.eval,h1'];exact ⟨_,rfl,Below.refl _ _,rfl⟩
    | 6,_=>cases hq;have h5':a.tmps[5]?.getD undef = .pointer (some ⟨B5,0,none⟩):=gq (hG.fr 5 (by simp));unfold Oper.wp;simp [go_sem,Act.eval,h5'];exact ⟨_,rfl,Below.refl _ _,rfl⟩
    | 7,_ =>
      cases hq
      have h156':a.tmps[156]?.getD undef = .pointer (some ⟨B5,2,none⟩):=gq (hG.dep ⟨6,.data⟩ (by simp) rfl _ rfl)
      have c3:w7.cell? ⟨B5,2,none⟩ = some (.int .i64 r):=hC.cell HC.out.2 HC.out.1
      unfold Oper.wp
      simp [go_sem,Act.eval,h156',c3]
      exact ⟨_,rfl,Below.refl _ _,rfl⟩
    | 8,_ =>
      cases hq
      have h19:a.tmps.getD 19 undef = .pointer (some ⟨B6,0,none⟩):=hG.fr 19 (by simp)
      refine step_g (.agg (thc (lt k h 0 0 n l tg 0 0 false))) ?_ (Below.refl _ _) rfl
      rw [execOp_ldLwP158]
      show (ldW (a.tmps.getD 19 undef)).run _ _ = _
      rw [h19]
      exact loadWhat_blk ((hC.1 B6 HW.out.2 (blk_lt HW.out.1)).trans HW.out.1) rfl
    | 9,_=>exact absurd rfl hne2
   ·intro q a w7 hq hC hG
    cases hq
    have h150':a.tmps[150]?.getD undef = .pointer (some ⟨p,0,none⟩):=gq (hG.dep ⟨0,.data⟩ (by simp) rfl _ rfl)
    have h152':a.tmps[152]?.getD undef = .int .i64 r:=gq (hG.dep ⟨2,.data⟩ (by simp) rfl _ rfl)
    have h153':a.tmps[153]?.getD undef = .agg (thc (lt k h 0 0 n l tg 0 0 false)):=gq (hG.dep ⟨3,.data⟩ (by simp) rfl _ rfl)
    unfold Oper.wp
    simp [go_sem,callFunc,Act.eval,Tryz.func107,h150',h152',h153']
    refine Calls.mono ((HT2.out w7 hC.2.2).stage hC.2.2) ?_
    rintro e w8 ⟨rfl,hk8,hn8⟩
    exact ⟨_,rfl,hC.one hk8 HFl.out hn8,rfl,fun j u hne h=>LwP.turn1 j u _ _ hne h⟩
   ·intro q a w7 hq hC hG
    cases hq
    have h155':a.tmps[155]?.getD undef = .pointer (some ⟨q,0,none⟩):=gq (hG.dep ⟨5,.data⟩ (by simp) rfl _ rfl)
    have h157':a.tmps[157]?.getD undef = .int .i64 r:=gq (hG.dep ⟨7,.data⟩ (by simp) rfl _ rfl)
    have h158':a.tmps[158]?.getD undef = .agg (thc (lt k h 0 0 n l tg 0 0 false)):=gq (hG.dep ⟨8,.data⟩ (by simp) rfl _ rfl)
    unfold Oper.wp
    simp [go_sem,callFunc,Act.eval,Tryz.func108,h155',h157',h158']
    refine Calls.mono (hC.2.2 w7 (Below.refl _ _)) ?_
    rintro e w8 ⟨rfl,hS8,hk8⟩
    exact ⟨_,rfl,hC.two hk8 (fun b h=>HFl.out b (.inr h)) hS8,rfl,fun j u hne h=>LwP.turn2 j u _ _ hne h⟩
   ·intro a w7 hC hdf hsz hfr hphi
    have e0:a.tmps.getD 150 undef = .pointer (some ⟨p,0,none⟩):=hphi 0 _ rfl
    have e1:a.tmps.getD 151 undef = .pointer (some ⟨B5,2,none⟩):=hphi 1 _ rfl
    have e2:a.tmps.getD 152 undef = .int .i64 r:=hphi 2 _ rfl
    have e3:a.tmps.getD 153 undef = .agg (thc (lt k h 0 0 n l tg 0 0 false)):=hphi 3 _ rfl
    have e4:a.tmps.getD 154 undef = .int .i64 x:=hphi 4 _ rfl
    have e5:a.tmps.getD 155 undef = .pointer (some ⟨q,0,none⟩):=hphi 5 _ rfl
    have e6:a.tmps.getD 156 undef = .pointer (some ⟨B5,2,none⟩):=hphi 6 _ rfl
    have e7:a.tmps.getD 157 undef = .int .i64 r:=hphi 7 _ rfl
    have e8:a.tmps.getD 158 undef = .agg (thc (lt k h 0 0 n l tg 0 0 false)):=hphi 8 _ rfl
    have e9:a.tmps.getD 159 undef = .int .i64 x:=hphi 9 _ rfl
    have ha:=act_of hdf hsz hfr
    simp only [List.take_succ_cons,List.take_zero,List.filterMap_cons,List.filterMap_nil,List.foldl_cons,List.foldl_nil,List.setIfInBounds_toArray,List.set_cons_zero,List.set_cons_succ,e0,e1,e2,e3,e4,e5,e6,e7,e8,e9] at ha
    clear hdf hsz hfr hphi e0 e1 e2 e3 e4 e5 e6 e7 e8 e9
    subst ha
    have HD:Hid (PStep w p q M F G w7):=hC.2.2
    clear hC
    refine ⟨rfl,?_⟩
    unfold Oper.wp
    simp [execOp,go_sem,Act.eval,wpTailG]
    refine ‹∀ (a:Act) (w:World),Code.wp Tryz.prog _ _ a w→_› _ _ ?_
    go_wp2_with fail
    go_ret
    exact ⟨rfl,HD.out⟩
set_option maxHeartbeats 4000000 in
set_option maxRecDepth 20000 in
theorem both_o (S:PS w p q M F G) (hl:M.last + 1 ≤ 100000) (sd qq n:Int) {how r:Int} (hr:(Lit.int .i64 r).wf = true) (hh:how ≠ 0∧how ≠ 1∧how ≠ 3∧how ≠ 4∧how ≠ 9∧how ≠ 10∧how ≠ 11):Calls Tryz.prog 23 #[.pointer (some ⟨p,0,none⟩),.pointer (some ⟨q,0,none⟩),.agg #[.int .i64 how,.int .i64 sd,.int .i64 r,.int .i64 qq,.int .i64 n]] w fun e w'=>e = .returned (.bool true)∧PStep w p q M F G w':=by
 have HT:Hid (∀ w',Below w.heap.size w w'→Calls Tryz.prog 109 #[.pointer (some ⟨p,0,none⟩),.pointer (some ⟨q,0,none⟩),.agg #[.int .i64 how,.int .i64 sd,.int .i64 r,.int .i64 qq,.int .i64 n]] w' fun e w''=>e = .returned (.bool true)∧Below w'.heap.size w' w''):=fun w' hb=>tells_any (S.below hb) (by omega) how sd qq n hr
 have HSb:Hid (∀ w',Below w.heap.size w w'→PStep w p q M F G w'):=fun w' hb=>S.same hb
 have b0:(how == 0) = false:=by simpa using hh.1
 have b1:(how == 1) = false:=by simpa using hh.2.1
 have b3:(how == 3) = false:=by simpa using hh.2.2.1
 have b4:(how == 4) = false:=by simpa using hh.2.2.2.1
 have b9:(how == 9) = false:=by simpa using hh.2.2.2.2.1
 have b10:(how == 10) = false:=by simpa using hh.2.2.2.2.2.1
 have b11:(how == 11) = false:=by simpa using hh.2.2.2.2.2.2
 clear S hl hr hh
 have H1:Hid (Below w.heap.size w (w.alloc (.cells #[.int .i64 how,.int .i64 sd,.int .i64 r,.int .i64 qq,.int .i64 n] 62))∧(w.alloc (.cells #[.int .i64 how,.int .i64 sd,.int .i64 r,.int .i64 qq,.int .i64 n] 62)).heap[w.heap.size]? = some (.cells #[.int .i64 how,.int .i64 sd,.int .i64 r,.int .i64 qq,.int .i64 n] 62 (0,0))):=⟨(Below.refl _ w).alloc (Nat.le_refl _) _,blk_new _ _⟩
 go_enter Tryz.func23,Tryz.ntmps23
 go_upto_region 1 with fail
 revert H1
 generalize w.alloc _ = w1
 intro H1
 have c0:w1.cell? ⟨w.heap.size,0,none⟩ = some (.int .i64 how):=by rw [cell_blk H1.out.2];rfl
 have c1:w1.cell? ⟨w.heap.size,1,none⟩ = some (.int .i64 sd):=by rw [cell_blk H1.out.2];rfl
 have c2:w1.cell? ⟨w.heap.size,2,none⟩ = some (.int .i64 r):=by rw [cell_blk H1.out.2];rfl
 have c3:w1.cell? ⟨w.heap.size,3,none⟩ = some (.int .i64 qq):=by rw [cell_blk H1.out.2];rfl
 have c4:w1.cell? ⟨w.heap.size,4,none⟩ = some (.int .i64 n):=by rw [cell_blk H1.out.2];rfl
 go_wp2_with fail
 refine Calls.mono (HT.out w1 H1.out.1) ?_
 rintro e w2 ⟨rfl,hb2⟩
 have H2:Hid (PStep w p q M F G w2):=HSb.out w2 (H1.out.1.trans (hb2.mono H1.out.1.size))
 clear hb2 H1 c0 c1 c2 c3 c4 HT HSb
 go_wp2_with fail
 go_ret
 exact ⟨rfl,H2.out⟩
theorem both_any (S:PS w p q M F G) (hl:M.last + 1 ≤ 100000) (how sd n:Int) {r qq:Int} (hr:(Lit.int .i64 r).wf = true) (hqq:(Lit.int .i64 qq).wf = true):Calls Tryz.prog 23 #[.pointer (some ⟨p,0,none⟩),.pointer (some ⟨q,0,none⟩),.agg #[.int .i64 how,.int .i64 sd,.int .i64 r,.int .i64 qq,.int .i64 n]] w fun e w'=>e = .returned (.bool true)∧PStep w p q M F G w':=by
 by_cases h0:how = 0
 ·subst h0;exact both_0 S hl sd r qq n
 by_cases h1:how = 1
 ·subst h1;exact both_1 S hl sd qq n hr
 by_cases h3:how = 3
 ·subst h3;exact both_3 S hl sd qq n hr
 by_cases h4:how = 4
 ·subst h4;exact both_4 S hl sd n hr hqq
 by_cases h9:how = 9
 ·subst h9;exact both_9 S hl sd qq n hr
 by_cases h10:how = 10
 ·subst h10;exact both_10 S hl sd qq n hr
 by_cases h11:how = 11
 ·subst h11;exact both_11 S hl sd r qq n
 exact both_o S hl sd qq n hr ⟨h0,h1,h3,h4,h9,h10,h11⟩
end Go.Proofs.YthaliljaglldjaaGreat
/- Steps of five numbers: a script as an argument. -/
namespace Go.Proofs.YthaliljaglldjaaGreat
open Go.ChangeShapes Go.WideShapes Go.ChangeAt Go.RowKit Go.Joins
abbrev St5:=Int × Int × Int × Int × Int
def stc (t:St5):List Value:=[.int .i64 t.1,.int .i64 t.2.1,.int .i64 t.2.2.1,.int .i64 t.2.2.2.1,.int .i64 t.2.2.2.2]
def StArg (w:World) (sa:Option Addr) (ts:List St5):Prop:=ts = []∨∃ b o,sa = some ⟨b,o,none⟩∧b < w.heap.size∧∀ (j:Nat) (t:St5),ts[j]? = some t→w.rangeAt b (o + j * 5) (stc t)
theorem rangeAt_below5 {w w':World} {b o:Nat} {cs:List Value} (h:w.rangeAt b o cs) (hb:Below w.heap.size w w') (hlt:b < w.heap.size):w'.rangeAt b o cs:=fun j v hv=>(hb.cell (p:=⟨b,o + j,none⟩) hlt).trans (h j v hv)
theorem StArg.at {w:World} {sa:Option Addr} {ts:List St5} (h:StArg w sa ts) {j:Nat} {t:St5} (ht:ts[j]? = some t):∃ b o,sa = some ⟨b,o,none⟩∧∀ w',Below w.heap.size w w'→w'.rangeAt b (o + j * 5) (stc t):=by
 rcases h with rfl | ⟨b,o,h1,h2,h3⟩
 ·cases ht
 ·exact ⟨b,o,h1,fun w' hb=>rangeAt_below5 (h3 j t ht) hb h2⟩
theorem open_st5 {H:Type} {enc:TypeId × Value→H} {P:Program} {e:TypeId} {W:World} {base:Nat} {sp:Nat→Bool} {held:Bool} {f0 f1 f2 f3 f4:Field} (he:P.underlying e = some (.struct #[f0,f1,f2,f3,f4]))
 (ce:P.cellsOf e = 5) (o0:f0.offset = 0) (o1:f1.offset = 1) (o2:f2.offset = 2) (o3:f3.offset = 3) (o4:f4.offset = 4) (c0:P.cellsOf f0.type = 1) (c1:P.cellsOf f1.type = 1) (c2:P.cellsOf f2.type = 1) (c3:P.cellsOf f3.type = 1) (c4:P.cellsOf f4.type = 1)
 (k0:P.underlying f0.type = some (.int .i64)) (k1:P.underlying f1.type = some (.int .i64)) (k2:P.underlying f2.type = some (.int .i64)) (k3:P.underlying f3.type = some (.int .i64)) (k4:P.underlying f4.type = some (.int .i64))
 {n:Nat} {cs:List Value} {x:DataW H × List MemPlace} (h:DataW.trod enc P W base sp held n e cs = some x) :
 ∃ t:St5,cs = stc t∧(Lit.int .i64 t.2.2.1).wf = true∧(Lit.int .i64 t.2.2.2.1).wf = true:=by
 obtain ⟨xs,k,-,-,hl,hxl,hf⟩:=DataW.trod_struct he h
 rw [ce] at hl
 match xs,hxl,cs,hl with
 | [y0,y1,y2,y3,y4],_,[v0,v1,v2,v3,v4],_ =>
   have g0:=hf 0 f0 rfl
   have g1:=hf 1 f1 rfl
   have g2:=hf 2 f2 rfl
   have g3:=hf 3 f3 rfl
   have g4:=hf 4 f4 rfl
   simp [o0,o1,o2,o3,o4,c0,c1,c2,c3,c4] at g0 g1 g2 g3 g4
   obtain ⟨a,e0,-,-⟩:=DataW.trod_int k0 g0
   obtain ⟨b,e1,-,-⟩:=DataW.trod_int k1 g1
   obtain ⟨c,e2,-,w1⟩:=DataW.trod_int k2 g2
   obtain ⟨d,e3,-,w2⟩:=DataW.trod_int k3 g3
   obtain ⟨f,e4,-,-⟩:=DataW.trod_int k4 g4
   simp at e0 e1 e2 e3 e4
   exact ⟨(a,b,c,d,f),by simp [stc,e0,e1,e2,e3,e4],w1,w2⟩
theorem open_sts {H:Type} {enc:TypeId × Value→H} {P:Program} {t e:TypeId} {W:World} {base:Nat} {held:Bool} (ht:P.underlying t = some (.slice e)) (ce:P.cellsOf e = 5)
 (one:∀ (n:Nat) (cs:List Value) (x:DataW H × List MemPlace),DataW.trod enc P W base (fun _=>true) held n e cs = some x→∃ t:St5,cs = stc t∧(Lit.int .i64 t.2.2.1).wf = true∧(Lit.int .i64 t.2.2.2.1).wf = true)
 {r:Reach} {b0:Nat} {v:Value} (hval:Value.okWide P W r b0 t v) {d:DataW H} {ps:List MemPlace} (hd:DataW.Trod enc P W base (fun _=>true) held t v d ps) :
 ∃ (pa:Option Addr) (c:Nat) (ts:List St5),v = .slice pa ts.length c∧(∀ t ∈ ts,(Lit.int .i64 t.2.2.1).wf = true∧(Lit.int .i64 t.2.2.2.1).wf = true)∧StArg W pa ts:=by
 obtain ⟨fuel,hf⟩:=hd
 obtain ⟨a0,len,cap,rfl⟩:=okWide_slice ht hval
 rcases Go.Deep.open_slice ht hf with ⟨hcs,-⟩ | ⟨a,len',cap',m,n,D,Pl,hcs,-,hl,-,hm,-,hx⟩
 ·simp [Value.cells] at hcs
  obtain ⟨rfl,rfl,rfl⟩:=hcs
  exact ⟨none,0,[],rfl,by simp,.inl rfl⟩
 ·simp [Value.cells] at hcs
  obtain ⟨rfl,rfl,rfl⟩:=hcs
  simp only [if_true] at hm
  subst hm
  have each:∀ i,i < len→∃ q:St5,(∀ j v,(stc q)[j]? = some v→W.cell? ((a.add (i * 5)).add j) = some v)∧(Lit.int .i64 q.2.2.1).wf = true∧(Lit.int .i64 q.2.2.2.1).wf = true:=by
   intro i hi
   obtain ⟨cs',h1,h2⟩:=hx i (by omega)
   rw [ce] at h1
   obtain ⟨_,hlen,hcell⟩:=World.cells?_some h1
   obtain ⟨q,rfl,w1,w2⟩:=one _ _ _ h2
   refine ⟨q,fun j v hj=>?_,w1,w2⟩
   rw [hcell j (by have:=(List.getElem?_eq_some_iff.1 hj).1;rwa [hlen] at this)]
   exact hj
  obtain ⟨q,hq⟩:=Go.Deep.choose_lt each
  refine ⟨some a,m,(List.range len).map q,by simp,fun t ht=>?_,?_⟩
  ·obtain ⟨i,hi,rfl⟩:=List.mem_map.1 ht
   exact (hq i (List.mem_range.1 hi)).2
  ·by_cases h0:len = 0
   ·subst h0
    exact .inl rfl
   ·right
    have c0:=(hq 0 (by omega)).1 0 (.int .i64 (q 0).1) rfl
    obtain ⟨b,off,spot⟩:=a
    have hspot:spot = none:=by simpa [Addr.add] using World.cell?_spot c0
    subst hspot
    refine ⟨b,off,rfl,?_,fun j t hj=>?_⟩
    ·have:=World.block_lt_of_cell? _ _ c0
     simpa [Addr.add] using this
    ·rw [List.getElem?_map,Option.map_eq_some_iff] at hj
     obtain ⟨i,hi,rfl⟩:=hj
     have hi':j < len:=by
      have:=(List.getElem?_eq_some_iff.1 hi).1
      simpa using this
     rw [List.getElem?_range hi'] at hi
     cases hi
     intro l v hv
     have:=(hq j hi').1 l v hv
     rw [Addr.add_mid,Addr.add_mid] at this
     exact this
end Go.Proofs.YthaliljaglldjaaGreat
/- Facet. -/
namespace Go.Proofs.YthaliljaglldjaaGreat
open Go.RowKit Go.ChangeMaps Go.MapKept
variable {w:World} {p:Nat} {M:WM} {F:Nat→Prop}
end Go.Proofs.YthaliljaglldjaaGreat
/- Free, where no gate stands on the way. -/
namespace Go.Proofs.YthaliljaglldjaaGreat
open Go.RowKit Go.ChangeMaps Go.MapKept
variable {w:World} {p:Nat} {M:WM} {F:Nat→Prop}
end Go.Proofs.YthaliljaglldjaaGreat
