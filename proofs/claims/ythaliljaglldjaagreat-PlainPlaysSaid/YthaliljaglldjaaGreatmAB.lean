/- Part of the proof. -/
import Derived.Test.YthaliljaglldjaaGreatmAA
import Derived.Deep.WholeRow
import Derived.Deep.QuietTactic
import Derived.BigQuiet
namespace Go.Proofs.YthaliljaglldjaaGreat
set_option maxHeartbeats 16000000
set_option maxRecDepth 20000
open Go.RowKit Go.ChangeMaps Go.MapKept
section
theorem cA {P:Program} {w:World} {b:Nat} {ty e:TypeId} {cs:Array Value} {fr:Nat × Nat} {d:TypeDesc} (hg:w.heap[b]? = some (.cells cs e fr)) (hu:P.underlying ty=some d)
 (hd:(match (d:TypeDesc)with | .struct _ | .array _ _=>true | _=>false)=true) (hi:(P.info? ty).map (·.size)=some cs.size) :
 (Instr.loadAt ty (P_ b)).run P w=.ok (.agg cs) w:=by
 simp only [Instr.loadAt,Instr.sureAddr,Sem.run_bind,Sem.run_pure,Result.andThen];exact run_loadVar_row w b e ty cs fr d hg hu hd hi
theorem bI {P:Program} {w:World} {b:Nat} {ty e:TypeId} {c c':Array Value} (hg:w.heap[b]? = some (.cells c e (0,0))) (hi:(P.info? ty).map (·.size)=some c'.size) (ho:c.size=c'.size) (h1:c'.all (·.oneCell')=true) :
 (Instr.storeAt ty (P_ b) (.agg c')).run P w=.ok () (w.setRow b c'):=by
 simp only [Instr.storeAt,Instr.sureAddr,Sem.run_bind,Sem.run_pure,Result.andThen];exact run_storeVar_row w b e ty c c' hg hi ho h1
theorem bm (w:World) (b:Nat) (c:Array Value) (o:Obj) (hb:b<w.heap.size):(w.alloc o).setRow b c=(w.setRow b c).alloc o:=by
 simp only [World.setRow,World.alloc]
 congr 1
 apply Array.ext_getElem?
 intro i;simp only [Array.getElem?_modify,Array.getElem?_push,Array.size_modify]
 by_cases h:b=i
 ·subst h;rw [if_pos rfl,if_neg (by omega),if_neg (by omega),if_pos rfl]
 ·rw [if_neg h];split <;> rfl
theorem dr:(Tryz.prog.info? 46).map (·.size)=some 16:=by kernel_rfl
theorem dh:(Tryz.prog.info? 27).map (·.size)=some 5:=by kernel_rfl
def dZ (a:Value):Sem Next:=do pure (.value (← Instr.loadAt 46 a))
def Ax (a x:Value):Sem Next:=do Instr.storeAt 46 a x;pure .skip
@[go_sem ↓] theorem execOp_ldW (ρ:Operand->Value) (d:Option Tmp) (a:Operand) (ty:TypeId) (pos:String) (af:Array Edge) (g:Option (Nat × Bool)) :
 execOp ρ { dst:=d,op:=.load 46 a,type:=ty,pos:=pos,after:=af,guard:=g } = dZ (ρ a):=rfl
@[go_sem ↓] theorem execOp_stW (ρ:Operand->Value) (d:Option Tmp) (a x:Operand) (ty:TypeId) (pos:String) (af:Array Edge) (g:Option (Nat × Bool)) :
 execOp ρ { dst:=d,op:=.store 46 a x,type:=ty,pos:=pos,after:=af,guard:=g } = Ax (ρ a) (ρ x):=rfl
theorem aD {w:World} {b:Nat} {cs:Array Value} {fr:Nat × Nat} (hg:w.heap[b]? = some (.cells cs 46 fr)) (hs:cs.size=16):(dZ (P_ b)).run Tryz.prog w=.ok (.value (.agg cs)) w:=by
 have:=cA hg Tryz.underlying46 rfl (by rw [hs];exact dr);simp only [dZ,Sem.run_bind,this,Result.andThen,Sem.run_pure]
theorem aS {w:World} {b:Nat} {c c':Array Value} (hg:w.heap[b]? = some (.cells c 46 (0,0))) (hs:c.size=16) (hs':c'.size=16) (h1:c'.all (·.oneCell')=true) :
 (Ax (P_ b) (.agg c')).run Tryz.prog w=.ok .skip (w.setRow b c'):=by
 have:=bI (P:=Tryz.prog) hg (by rw [hs'];exact dr) (by rw [hs,hs']) h1;simp only [Ax,Sem.run_bind,this,Result.andThen,Sem.run_pure]
theorem bz {fn:Func} {q:Tmp} (h:fn.results=#[.cell q 46]) (tmps:Array Value) (W:World) (g:Nat) (cs:Array Value) (fr:Nat × Nat) (hp:tmps.getD q undef=P_ g)
 (hg:W.heap[g]? = some (.cells cs 46 fr)) (hs:cs.size=16):(results fn tmps).run Tryz.prog W=.ok (.agg cs) W :=
 results_cell_row (P:=Tryz.prog) h tmps W g 46 cs fr _ hp hg Tryz.underlying46 rfl (by rw [hs];exact dr)
theorem eN (w:World) (A B C:Obj) {g:Nat} (hg:g=w.heap.size+1):(((w.alloc A).alloc B).alloc C).heap[g]? = some B:=by
 have:=aG _ C (ai (w.alloc A) B);rw [World.size_alloc]at this;rw [hg];exact this
theorem mP (w:World) (A B C:Obj) {g:Nat} (hg:g=w.heap.size+1):(((w.alloc A).alloc B).alloc C).drew.heap[g]? = some B:=eN w A B C hg
@[go_sem] theorem oneCell_u8 (k:IntKind) (n:Int):(Value.int k n).oneCell'=true:=rfl
@[go_sem] theorem oneCell_bool (n:Bool):(Value.bool n).oneCell'=true:=rfl
@[go_sem] theorem oneCell_string (n:ByteArray):(Value.string n).oneCell'=true:=rfl
@[go_sem] theorem oneCell_slice (a:Option Addr) (n c:Nat):(Value.slice a n c).oneCell'=true:=rfl
section
variable (w:World) (b:Nat) (x0 x1 x2 x3 x4 x5 x6 x7 x8 x9 x10 x11 x12 x13 x14 x15 y0 y1 y2 y3 y4 y5 y6 y7 y8 y9 y10 y11 y12 y13 y14 y15 z0 z1 z2 z3 z4 z5 z6 z7 z8 z9 z10 z11 z12 z13 z14 z15:Value) (o o' o'':Obj)
@[go_sem] theorem loadWhat_0 (hb:b=w.heap.size):(dZ (.pointer (some ⟨b,0,none⟩))).run Tryz.prog (w.alloc (.cells #[x0,x1,x2,x3,x4,x5,x6,x7,x8,x9,x10,x11,x12,x13,x14,x15] 46))=.ok (.value (.agg #[x0,x1,x2,x3,x4,x5,x6,x7,x8,x9,x10,x11,x12,x13,x14,x15])) (w.alloc (.cells #[x0,x1,x2,x3,x4,x5,x6,x7,x8,x9,x10,x11,x12,x13,x14,x15] 46)):=by
 subst hb;exact aD (w:=(w.alloc (.cells #[x0,x1,x2,x3,x4,x5,x6,x7,x8,x9,x10,x11,x12,x13,x14,x15] 46))) (ai w _) rfl
@[go_sem] theorem storeWhat_0 (hb:b=w.heap.size) (h1:(y0.oneCell' && y1.oneCell' && y2.oneCell' && y3.oneCell' && y4.oneCell' && y5.oneCell' && y6.oneCell' && y7.oneCell' && y8.oneCell' && y9.oneCell' && y10.oneCell' && y11.oneCell' && y12.oneCell' && y13.oneCell' && y14.oneCell' && y15.oneCell')=true):(Ax (.pointer (some ⟨b,0,none⟩)) (.agg #[y0,y1,y2,y3,y4,y5,y6,y7,y8,y9,y10,y11,y12,y13,y14,y15])).run Tryz.prog (w.alloc (.cells #[z0,z1,z2,z3,z4,z5,z6,z7,z8,z9,z10,z11,z12,z13,z14,z15] 46))=.ok .skip (w.alloc (.cells #[y0,y1,y2,y3,y4,y5,y6,y7,y8,y9,y10,y11,y12,y13,y14,y15] 46)):=by
 subst hb;rw [aS (ai w _) rfl rfl (by simpa [Bool.and_assoc]using h1),World.setRow_alloc_new]
@[go_sem] theorem loadWhat_1 (hb:b=w.heap.size):(dZ (.pointer (some ⟨b,0,none⟩))).run Tryz.prog ((w.alloc (.cells #[x0,x1,x2,x3,x4,x5,x6,x7,x8,x9,x10,x11,x12,x13,x14,x15] 46)).alloc o)=.ok (.value (.agg #[x0,x1,x2,x3,x4,x5,x6,x7,x8,x9,x10,x11,x12,x13,x14,x15])) ((w.alloc (.cells #[x0,x1,x2,x3,x4,x5,x6,x7,x8,x9,x10,x11,x12,x13,x14,x15] 46)).alloc o):=by
 subst hb;exact aD (w:=((w.alloc (.cells #[x0,x1,x2,x3,x4,x5,x6,x7,x8,x9,x10,x11,x12,x13,x14,x15] 46)).alloc o)) (aG _ _ (ai w _)) rfl
@[go_sem] theorem storeWhat_1 (hb:b=w.heap.size) (h1:(y0.oneCell' && y1.oneCell' && y2.oneCell' && y3.oneCell' && y4.oneCell' && y5.oneCell' && y6.oneCell' && y7.oneCell' && y8.oneCell' && y9.oneCell' && y10.oneCell' && y11.oneCell' && y12.oneCell' && y13.oneCell' && y14.oneCell' && y15.oneCell')=true):(Ax (.pointer (some ⟨b,0,none⟩)) (.agg #[y0,y1,y2,y3,y4,y5,y6,y7,y8,y9,y10,y11,y12,y13,y14,y15])).run Tryz.prog ((w.alloc (.cells #[z0,z1,z2,z3,z4,z5,z6,z7,z8,z9,z10,z11,z12,z13,z14,z15] 46)).alloc o)=.ok .skip ((w.alloc (.cells #[y0,y1,y2,y3,y4,y5,y6,y7,y8,y9,y10,y11,y12,y13,y14,y15] 46)).alloc o):=by
 subst hb;rw [aS (aG _ _ (ai w _)) rfl rfl (by simpa [Bool.and_assoc]using h1),bm _ _ _ _ (by simp),World.setRow_alloc_new]
@[go_sem] theorem loadWhat_2 (hb:b=w.heap.size):(dZ (.pointer (some ⟨b,0,none⟩))).run Tryz.prog (((w.alloc (.cells #[x0,x1,x2,x3,x4,x5,x6,x7,x8,x9,x10,x11,x12,x13,x14,x15] 46)).alloc o).alloc o')=.ok (.value (.agg #[x0,x1,x2,x3,x4,x5,x6,x7,x8,x9,x10,x11,x12,x13,x14,x15])) (((w.alloc (.cells #[x0,x1,x2,x3,x4,x5,x6,x7,x8,x9,x10,x11,x12,x13,x14,x15] 46)).alloc o).alloc o'):=by
 subst hb;exact aD (w:=(((w.alloc (.cells #[x0,x1,x2,x3,x4,x5,x6,x7,x8,x9,x10,x11,x12,x13,x14,x15] 46)).alloc o).alloc o')) (aG _ _ (aG _ _ (ai w _))) rfl
@[go_sem] theorem storeWhat_2 (hb:b=w.heap.size) (h1:(y0.oneCell' && y1.oneCell' && y2.oneCell' && y3.oneCell' && y4.oneCell' && y5.oneCell' && y6.oneCell' && y7.oneCell' && y8.oneCell' && y9.oneCell' && y10.oneCell' && y11.oneCell' && y12.oneCell' && y13.oneCell' && y14.oneCell' && y15.oneCell')=true):(Ax (.pointer (some ⟨b,0,none⟩)) (.agg #[y0,y1,y2,y3,y4,y5,y6,y7,y8,y9,y10,y11,y12,y13,y14,y15])).run Tryz.prog (((w.alloc (.cells #[z0,z1,z2,z3,z4,z5,z6,z7,z8,z9,z10,z11,z12,z13,z14,z15] 46)).alloc o).alloc o')=.ok .skip (((w.alloc (.cells #[y0,y1,y2,y3,y4,y5,y6,y7,y8,y9,y10,y11,y12,y13,y14,y15] 46)).alloc o).alloc o'):=by
 subst hb;rw [aS (aG _ _ (aG _ _ (ai w _))) rfl rfl (by simpa [Bool.and_assoc]using h1),bm _ _ _ _ (by simp;omega),bm _ _ _ _ (by simp),World.setRow_alloc_new]
@[go_sem] theorem loadWhat_3 (hb:b=w.heap.size):(dZ (.pointer (some ⟨b,0,none⟩))).run Tryz.prog ((((w.alloc (.cells #[x0,x1,x2,x3,x4,x5,x6,x7,x8,x9,x10,x11,x12,x13,x14,x15] 46)).alloc o).alloc o').alloc o'')=.ok (.value (.agg #[x0,x1,x2,x3,x4,x5,x6,x7,x8,x9,x10,x11,x12,x13,x14,x15])) ((((w.alloc (.cells #[x0,x1,x2,x3,x4,x5,x6,x7,x8,x9,x10,x11,x12,x13,x14,x15] 46)).alloc o).alloc o').alloc o''):=by
 subst hb;exact aD (w:=((((w.alloc (.cells #[x0,x1,x2,x3,x4,x5,x6,x7,x8,x9,x10,x11,x12,x13,x14,x15] 46)).alloc o).alloc o').alloc o'')) (aG _ _ (aG _ _ (aG _ _ (ai w _)))) rfl
@[go_sem] theorem storeWhat_3 (hb:b=w.heap.size) (h1:(y0.oneCell' && y1.oneCell' && y2.oneCell' && y3.oneCell' && y4.oneCell' && y5.oneCell' && y6.oneCell' && y7.oneCell' && y8.oneCell' && y9.oneCell' && y10.oneCell' && y11.oneCell' && y12.oneCell' && y13.oneCell' && y14.oneCell' && y15.oneCell')=true):(Ax (.pointer (some ⟨b,0,none⟩)) (.agg #[y0,y1,y2,y3,y4,y5,y6,y7,y8,y9,y10,y11,y12,y13,y14,y15])).run Tryz.prog ((((w.alloc (.cells #[z0,z1,z2,z3,z4,z5,z6,z7,z8,z9,z10,z11,z12,z13,z14,z15] 46)).alloc o).alloc o').alloc o'')=.ok .skip ((((w.alloc (.cells #[y0,y1,y2,y3,y4,y5,y6,y7,y8,y9,y10,y11,y12,y13,y14,y15] 46)).alloc o).alloc o').alloc o''):=by
 subst hb;rw [aS (aG _ _ (aG _ _ (aG _ _ (ai w _)))) rfl rfl (by simpa [Bool.and_assoc]using h1),bm _ _ _ _ (by simp;omega),bm _ _ _ _ (by simp;omega),bm _ _ _ _ (by simp),World.setRow_alloc_new]
@[go_sem] theorem loadWhat_0d (hb:b=w.heap.size):(dZ (.pointer (some ⟨b,0,none⟩))).run Tryz.prog (w.alloc (.cells #[x0,x1,x2,x3,x4,x5,x6,x7,x8,x9,x10,x11,x12,x13,x14,x15] 46)).drew=.ok (.value (.agg #[x0,x1,x2,x3,x4,x5,x6,x7,x8,x9,x10,x11,x12,x13,x14,x15])) (w.alloc (.cells #[x0,x1,x2,x3,x4,x5,x6,x7,x8,x9,x10,x11,x12,x13,x14,x15] 46)).drew:=by
 subst hb;exact aD (w:=(w.alloc (.cells #[x0,x1,x2,x3,x4,x5,x6,x7,x8,x9,x10,x11,x12,x13,x14,x15] 46)).drew) (ai w _) rfl
@[go_sem] theorem storeWhat_0d (hb:b=w.heap.size) (h1:(y0.oneCell' && y1.oneCell' && y2.oneCell' && y3.oneCell' && y4.oneCell' && y5.oneCell' && y6.oneCell' && y7.oneCell' && y8.oneCell' && y9.oneCell' && y10.oneCell' && y11.oneCell' && y12.oneCell' && y13.oneCell' && y14.oneCell' && y15.oneCell')=true):(Ax (.pointer (some ⟨b,0,none⟩)) (.agg #[y0,y1,y2,y3,y4,y5,y6,y7,y8,y9,y10,y11,y12,y13,y14,y15])).run Tryz.prog (w.alloc (.cells #[z0,z1,z2,z3,z4,z5,z6,z7,z8,z9,z10,z11,z12,z13,z14,z15] 46)).drew=.ok .skip (w.alloc (.cells #[y0,y1,y2,y3,y4,y5,y6,y7,y8,y9,y10,y11,y12,y13,y14,y15] 46)).drew:=by
 subst hb;rw [aS (w:=(w.alloc (.cells #[z0,z1,z2,z3,z4,z5,z6,z7,z8,z9,z10,z11,z12,z13,z14,z15] 46)).drew) (ai w _) rfl rfl (by simpa [Bool.and_assoc]using h1)];have e:((w.alloc (.cells #[z0,z1,z2,z3,z4,z5,z6,z7,z8,z9,z10,z11,z12,z13,z14,z15] 46))).setRow w.heap.size #[y0,y1,y2,y3,y4,y5,y6,y7,y8,y9,y10,y11,y12,y13,y14,y15]=(w.alloc (.cells #[y0,y1,y2,y3,y4,y5,y6,y7,y8,y9,y10,y11,y12,y13,y14,y15] 46)):=by rw [World.setRow_alloc_new]
 exact congrArg (fun W:World=>Result.ok Next.skip W.drew) e
@[go_sem] theorem loadWhat_1d (hb:b=w.heap.size):(dZ (.pointer (some ⟨b,0,none⟩))).run Tryz.prog ((w.alloc (.cells #[x0,x1,x2,x3,x4,x5,x6,x7,x8,x9,x10,x11,x12,x13,x14,x15] 46)).alloc o).drew=.ok (.value (.agg #[x0,x1,x2,x3,x4,x5,x6,x7,x8,x9,x10,x11,x12,x13,x14,x15])) ((w.alloc (.cells #[x0,x1,x2,x3,x4,x5,x6,x7,x8,x9,x10,x11,x12,x13,x14,x15] 46)).alloc o).drew:=by
 subst hb;exact aD (w:=((w.alloc (.cells #[x0,x1,x2,x3,x4,x5,x6,x7,x8,x9,x10,x11,x12,x13,x14,x15] 46)).alloc o).drew) (aG _ _ (ai w _)) rfl
@[go_sem] theorem storeWhat_1d (hb:b=w.heap.size) (h1:(y0.oneCell' && y1.oneCell' && y2.oneCell' && y3.oneCell' && y4.oneCell' && y5.oneCell' && y6.oneCell' && y7.oneCell' && y8.oneCell' && y9.oneCell' && y10.oneCell' && y11.oneCell' && y12.oneCell' && y13.oneCell' && y14.oneCell' && y15.oneCell')=true):(Ax (.pointer (some ⟨b,0,none⟩)) (.agg #[y0,y1,y2,y3,y4,y5,y6,y7,y8,y9,y10,y11,y12,y13,y14,y15])).run Tryz.prog ((w.alloc (.cells #[z0,z1,z2,z3,z4,z5,z6,z7,z8,z9,z10,z11,z12,z13,z14,z15] 46)).alloc o).drew=.ok .skip ((w.alloc (.cells #[y0,y1,y2,y3,y4,y5,y6,y7,y8,y9,y10,y11,y12,y13,y14,y15] 46)).alloc o).drew:=by
 subst hb;rw [aS (w:=((w.alloc (.cells #[z0,z1,z2,z3,z4,z5,z6,z7,z8,z9,z10,z11,z12,z13,z14,z15] 46)).alloc o).drew) (aG _ _ (ai w _)) rfl rfl (by simpa [Bool.and_assoc]using h1)];have e:(((w.alloc (.cells #[z0,z1,z2,z3,z4,z5,z6,z7,z8,z9,z10,z11,z12,z13,z14,z15] 46)).alloc o)).setRow w.heap.size #[y0,y1,y2,y3,y4,y5,y6,y7,y8,y9,y10,y11,y12,y13,y14,y15]=((w.alloc (.cells #[y0,y1,y2,y3,y4,y5,y6,y7,y8,y9,y10,y11,y12,y13,y14,y15] 46)).alloc o):=by rw [bm _ _ _ _ (by simp),World.setRow_alloc_new]
 exact congrArg (fun W:World=>Result.ok Next.skip W.drew) e
@[go_sem] theorem loadWhat_2d (hb:b=w.heap.size):(dZ (.pointer (some ⟨b,0,none⟩))).run Tryz.prog (((w.alloc (.cells #[x0,x1,x2,x3,x4,x5,x6,x7,x8,x9,x10,x11,x12,x13,x14,x15] 46)).alloc o).alloc o').drew=.ok (.value (.agg #[x0,x1,x2,x3,x4,x5,x6,x7,x8,x9,x10,x11,x12,x13,x14,x15])) (((w.alloc (.cells #[x0,x1,x2,x3,x4,x5,x6,x7,x8,x9,x10,x11,x12,x13,x14,x15] 46)).alloc o).alloc o').drew:=by
 subst hb;exact aD (w:=(((w.alloc (.cells #[x0,x1,x2,x3,x4,x5,x6,x7,x8,x9,x10,x11,x12,x13,x14,x15] 46)).alloc o).alloc o').drew) (aG _ _ (aG _ _ (ai w _))) rfl
@[go_sem] theorem storeWhat_2d (hb:b=w.heap.size) (h1:(y0.oneCell' && y1.oneCell' && y2.oneCell' && y3.oneCell' && y4.oneCell' && y5.oneCell' && y6.oneCell' && y7.oneCell' && y8.oneCell' && y9.oneCell' && y10.oneCell' && y11.oneCell' && y12.oneCell' && y13.oneCell' && y14.oneCell' && y15.oneCell')=true):(Ax (.pointer (some ⟨b,0,none⟩)) (.agg #[y0,y1,y2,y3,y4,y5,y6,y7,y8,y9,y10,y11,y12,y13,y14,y15])).run Tryz.prog (((w.alloc (.cells #[z0,z1,z2,z3,z4,z5,z6,z7,z8,z9,z10,z11,z12,z13,z14,z15] 46)).alloc o).alloc o').drew=.ok .skip (((w.alloc (.cells #[y0,y1,y2,y3,y4,y5,y6,y7,y8,y9,y10,y11,y12,y13,y14,y15] 46)).alloc o).alloc o').drew:=by
 subst hb;rw [aS (w:=(((w.alloc (.cells #[z0,z1,z2,z3,z4,z5,z6,z7,z8,z9,z10,z11,z12,z13,z14,z15] 46)).alloc o).alloc o').drew) (aG _ _ (aG _ _ (ai w _))) rfl rfl (by simpa [Bool.and_assoc]using h1)];have e:((((w.alloc (.cells #[z0,z1,z2,z3,z4,z5,z6,z7,z8,z9,z10,z11,z12,z13,z14,z15] 46)).alloc o).alloc o')).setRow w.heap.size #[y0,y1,y2,y3,y4,y5,y6,y7,y8,y9,y10,y11,y12,y13,y14,y15]=(((w.alloc (.cells #[y0,y1,y2,y3,y4,y5,y6,y7,y8,y9,y10,y11,y12,y13,y14,y15] 46)).alloc o).alloc o'):=by rw [bm _ _ _ _ (by simp;omega),bm _ _ _ _ (by simp),World.setRow_alloc_new]
 exact congrArg (fun W:World=>Result.ok Next.skip W.drew) e
@[go_sem] theorem loadWhat_3d (hb:b=w.heap.size):(dZ (.pointer (some ⟨b,0,none⟩))).run Tryz.prog ((((w.alloc (.cells #[x0,x1,x2,x3,x4,x5,x6,x7,x8,x9,x10,x11,x12,x13,x14,x15] 46)).alloc o).alloc o').alloc o'').drew=.ok (.value (.agg #[x0,x1,x2,x3,x4,x5,x6,x7,x8,x9,x10,x11,x12,x13,x14,x15])) ((((w.alloc (.cells #[x0,x1,x2,x3,x4,x5,x6,x7,x8,x9,x10,x11,x12,x13,x14,x15] 46)).alloc o).alloc o').alloc o'').drew:=by
 subst hb;exact aD (w:=((((w.alloc (.cells #[x0,x1,x2,x3,x4,x5,x6,x7,x8,x9,x10,x11,x12,x13,x14,x15] 46)).alloc o).alloc o').alloc o'').drew) (aG _ _ (aG _ _ (aG _ _ (ai w _)))) rfl
@[go_sem] theorem storeWhat_3d (hb:b=w.heap.size) (h1:(y0.oneCell' && y1.oneCell' && y2.oneCell' && y3.oneCell' && y4.oneCell' && y5.oneCell' && y6.oneCell' && y7.oneCell' && y8.oneCell' && y9.oneCell' && y10.oneCell' && y11.oneCell' && y12.oneCell' && y13.oneCell' && y14.oneCell' && y15.oneCell')=true):(Ax (.pointer (some ⟨b,0,none⟩)) (.agg #[y0,y1,y2,y3,y4,y5,y6,y7,y8,y9,y10,y11,y12,y13,y14,y15])).run Tryz.prog ((((w.alloc (.cells #[z0,z1,z2,z3,z4,z5,z6,z7,z8,z9,z10,z11,z12,z13,z14,z15] 46)).alloc o).alloc o').alloc o'').drew=.ok .skip ((((w.alloc (.cells #[y0,y1,y2,y3,y4,y5,y6,y7,y8,y9,y10,y11,y12,y13,y14,y15] 46)).alloc o).alloc o').alloc o'').drew:=by
 subst hb;rw [aS (w:=((((w.alloc (.cells #[z0,z1,z2,z3,z4,z5,z6,z7,z8,z9,z10,z11,z12,z13,z14,z15] 46)).alloc o).alloc o').alloc o'').drew) (aG _ _ (aG _ _ (aG _ _ (ai w _)))) rfl rfl (by simpa [Bool.and_assoc]using h1)];have e:(((((w.alloc (.cells #[z0,z1,z2,z3,z4,z5,z6,z7,z8,z9,z10,z11,z12,z13,z14,z15] 46)).alloc o).alloc o').alloc o'')).setRow w.heap.size #[y0,y1,y2,y3,y4,y5,y6,y7,y8,y9,y10,y11,y12,y13,y14,y15]=((((w.alloc (.cells #[y0,y1,y2,y3,y4,y5,y6,y7,y8,y9,y10,y11,y12,y13,y14,y15] 46)).alloc o).alloc o').alloc o''):=by rw [bm _ _ _ _ (by simp;omega),bm _ _ _ _ (by simp;omega),bm _ _ _ _ (by simp),World.setRow_alloc_new]
 exact congrArg (fun W:World=>Result.ok Next.skip W.drew) e
end
end
section
def Plain (k n:Int):Prop:=(k=0/\n=0)\/k=1
theorem eb (w:World) (k n:Int) (h:Plain k n):Calls Tryz.prog 161 #[.agg (V_ k n ⟨#[]⟩ (S_) 0)] w fun e w'=>e=.returned (.bool true)/\Below w.heap.size w w':=by
 rcases h with ⟨rfl,rfl⟩ | rfl
 ·go_enter Tryz.func161,Tryz.ntmps161
  go_wp2
  go_ret
  exact⟨rfl,by go_grown⟩
 ·go_enter Tryz.func161,Tryz.ntmps161
  go_wp2
  go_ret
  exact⟨rfl,by go_grown⟩
theorem tV (w:World) (k n:Int):Calls Tryz.prog 228 #[.agg (V_ k n ⟨#[]⟩ (S_) 0)] w fun e w'=>e=.returned (.agg (V_ k n ⟨#[]⟩ (S_) 0))/\Below w.heap.size w w':=by
 go_enter Tryz.func228,Tryz.ntmps228
 go_wp2
 go_returns
 exact⟨rfl,by go_grown⟩
theorem yq (w:World) (k n:Int) (h:Plain k n):Calls Tryz.prog 232 #[.agg (V_ k n ⟨#[]⟩ (S_) 0)] w fun e w' =>
 e=.returned (.tuple #[.agg (V_ k n ⟨#[]⟩ (S_) 0),J 0])/\Below w.heap.size w w':=by
 go_enter Tryz.func232,Tryz.ntmps232
 go_wp2_with fail
 refine(eb _ k n h).mono ?_;rintro e w1 ⟨rfl,hb1⟩;obtain⟨hc,hf⟩:=wZ hb1;have hz:w.heap.size+1<w1.heap.size:=by have:=hb1.size;simp at this;omega
 have HB:Hid (Below w.heap.size w w1):=((br.alloc aH _).alloc (by simp) _).trans (hb1.mono (by simp;omega));clear hb1
 go_wp2_with fail
 refine(tV _ k n).mono ?_;rintro e w2 ⟨rfl,hb2⟩;obtain⟨hc2,hf2⟩:=wZ hb2;have hz2:w.heap.size+1<w2.heap.size:=by have:=hb2.size;omega
 have HB2:Hid (Below w.heap.size w w2):=HB.out.trans (hb2.mono HB.out.size);clear hb2
 go_wp2_with fail
 have hB2:=HB2.out;have hz1:w.heap.size+1<w1.heap.size:=hz;exact bodyPost_ret (v:=.tuple #[.agg (V_ k n ⟨#[]⟩ (S_) 0),J 0]) (by simp [results,Tryz.results232,go_sem,hc,hc2,hz1]) rfl ⟨rfl,by go_grown⟩
theorem oV (w:World):Calls Tryz.prog 171 #[S_] w fun e w'=>e=.returned (S_)/\Below w.heap.size w w':=by
 go_enter Tryz.func171,Tryz.ntmps171
 go_wp2
 go_ret
 exact⟨rfl,by go_grown⟩
theorem ig (w:World):Calls Tryz.prog 172 #[S_] w fun e w'=>e=.returned (S_)/\w=w':=by
 go_enter Tryz.func172,Tryz.ntmps172
 go_wp2
 go_ret
 exact⟨rfl,rfl⟩
theorem nz (w:World):Calls Tryz.prog 233 #[S_] w fun e w'=>e=.returned (S_)/\w=w':=by
 go_enter Tryz.func233,Tryz.ntmps233
 go_wp2
 go_ret
 exact⟨rfl,rfl⟩
theorem kF (w:World):Calls Tryz.prog 173 #[S_] w fun e w'=>e=.returned (S_)/\w=w':=by
 go_enter Tryz.func173,Tryz.ntmps173
 go_wp2_with fail
 refine(nz _).mono ?_;rintro e w1 ⟨rfl,rfl⟩
 go_wp2_with fail
 go_rounds 1
 go_ret
 exact⟨rfl,rfl⟩
theorem xV (w:World) (f:Value):Calls Tryz.prog 165 #[S_,f] w fun e w'=>e=.returned (.bool false)/\w=w':=by
 go_enter Tryz.func165,Tryz.ntmps165
 go_wp2
 go_rounds 1
 go_ret
 exact⟨rfl,rfl⟩
theorem xx (w:World) (k n:Int) (h:Plain k n):Calls Tryz.prog 170 #[.agg (V_ k n ⟨#[]⟩ (S_) 0)] w fun e w'=>e=.returned (.agg (V_ k n ⟨#[]⟩ (S_) 0))/\Below w.heap.size w w':=by
 go_enter Tryz.func170,Tryz.ntmps170
 go_wp2_with fail
 refine(yq _ k n h).mono ?_;rintro e w1 ⟨rfl,hb1⟩;obtain⟨⟨a0,a1,a2,a3,a4⟩,f0,f1,f2,f3,f4⟩:=ax (ae hb1 (aK _ _ _));have hz:w.heap.size+1<w1.heap.size:=by have:=hb1.size;simp at this;omega
 have HB:Hid (Below w.heap.size w w1):=((br.alloc aH _).alloc (by simp) _).trans (hb1.mono (by simp;omega));clear hb1
 go_wp2_with fail
 have hB:=HB.out;have hz1:w.heap.size≤w1.heap.size:=by omega
 exact bodyPost_ret (v:=.agg (V_ k n ⟨#[]⟩ (S_) 0)) (by simp [results,Tryz.results170,go_sem,a0,a1,a2,a3,a4,hz]) rfl ⟨rfl,by go_grown⟩
end
end Go.Proofs.YthaliljaglldjaaGreat
