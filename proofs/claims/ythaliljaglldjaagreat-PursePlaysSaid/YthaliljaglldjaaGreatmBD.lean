/- A part of the proof, several texts in one: CopyB, Open, TellH. -/
import Derived.Test.YthaliljaglldjaaGreatmBC
import Derived.Test.YthaliljaglldjaaGreatmAK
import Derived.Test.YthaliljaglldjaaGreatmAL
import Derived.Test.YthaliljaglldjaaGreatmAE
import Derived.Test.YthaliljaglldjaaGreatmAD
import Derived.WalkKit
import Derived.ProofKit
import Derived.OpenShut
import Derived.ChangeSame
import Derived.ChangeSlices
import Derived.Carry
import Derived.RowKit
import Derived.Test.YthaliljaglldjaaGreatmAF
import Derived.Test.YthaliljaglldjaaGreatmAB
import Derived.Deep.AppendLies
import Derived.Deep.RegionLaw
/- Copy of a light world: the walk. -/
namespace Go.Proofs.YthaliljaglldjaaGreat
open Go.RowKit Go.ChangeMaps Go.MapKept
theorem len_cons {α:Type} {l:List α} {n:Nat} (h:l.length = n + 1):∃ x t,l = x :: t∧t.length = n:=by
 match l,h with
 | x :: t,h=>exact ⟨x,t,rfl,by simpa using h⟩
theorem step_v {P:Program} {Q:Exit→Act→World→Prop} {R:World→World→Prop} {Φ:Value→World→Prop} {o:Oper} {a:Act} {w w':World} (c:Bool) (v:Value) (hrun:(execOp a.eval o).run P w = .ok (.value v) w') (hR:R w w') (hφ:Φ (o.dst.elim undef fun _=>v) w')
 (hc:c = true→o.dst.isSome = true∧∃ b,blkOf v = some b∧w.heap.size ≤ b∧b < w'.heap.size) :
 o.wp P a w (fun a' w'=>∃ v,a' = a.put o.dst v∧R w w'∧Φ (o.dst.elim undef fun _=>v) w'∧(c = true→o.dst.isSome = true∧∃ b,blkOf v = some b∧w.heap.size ≤ b∧b < w'.heap.size)) Q:=by
 unfold Oper.wp
 rw [hrun]
 exact ⟨v,rfl,hR,hφ,hc⟩
end Go.Proofs.YthaliljaglldjaaGreat
/- Arguments of a law that are slices or arrays of whole numbers: what the walk is given. -/
namespace Go.Proofs.YthaliljaglldjaaGreat
open Go.ChangeShapes Go.WideShapes Go.ChangeAt Go.RowKit
def IntArg (k:IntKind) (w:World) (pa:Option Addr) (xs:List Int):Prop :=
 xs = []∨∃ b o,pa = some ⟨b,o,none⟩∧b < w.heap.size∧∀ (j:Nat) (x:Int),xs[j]? = some x→w.cell? ⟨b,o + j,none⟩ = some (.int k x)
end Go.Proofs.YthaliljaglldjaaGreat
/- Tell: the region that lays the answer. -/
namespace Go.Proofs.YthaliljaglldjaaGreat
open Go.RowKit Go.ChangeMaps Go.MapKept
theorem sizeAW:(Tryz.prog.info? 67).map (·.size) = some 5:=by kernel_rfl
def ldA (a:Value):Sem Next:=do pure (.value (← Instr.loadAt 67 a))
def stA (a x:Value):Sem Next:=do Instr.storeAt 67 a x;pure .skip
@[go_sem ↓] theorem execOp_ldA (ρ:Operand→Value) (d:Option Tmp) (a:Operand) (ty:TypeId) (pos:String) (af:Array Edge) (g:Option (Nat × Bool)) :
 execOp ρ { dst:=d,op:=.load 67 a,type:=ty,pos:=pos,after:=af,guard:=g } = ldA (ρ a):=rfl
@[go_sem ↓] theorem execOp_stA (ρ:Operand→Value) (d:Option Tmp) (a x:Operand) (ty:TypeId) (pos:String) (af:Array Edge) (g:Option (Nat × Bool)) :
 execOp ρ { dst:=d,op:=.store 67 a x,type:=ty,pos:=pos,after:=af,guard:=g } = stA (ρ a) (ρ x):=rfl
theorem loadA_blk {w:World} {b:Nat} {cs:Array Value} {fr:Nat × Nat} (hg:w.heap[b]? = some (.cells cs 67 fr)) (hs:cs.size = 5):(ldA (.pointer (some ⟨b,0,none⟩))).run Tryz.prog w = .ok (.value (.agg cs)) w:=by
 have:=run_loadAt_blk hg Tryz.underlying67 rfl (by rw [hs];exact sizeAW)
 simp only [ldA,Sem.run_bind,this,Result.andThen,Sem.run_pure]
theorem storeA_blk {w:World} {b:Nat} {c c':Array Value} (hg:w.heap[b]? = some (.cells c 67 (0,0))) (hs:c.size = 5) (hs':c'.size = 5) (h1:c'.all (·.oneCell') = true) :
 (stA (.pointer (some ⟨b,0,none⟩)) (.agg c')).run Tryz.prog w = .ok .skip (w.setRow b c'):=by
 have:=run_storeAt_blk (P:=Tryz.prog) hg (by rw [hs'];exact sizeAW) (by rw [hs,hs']) h1
 simp only [stA,Sem.run_bind,this,Result.andThen,Sem.run_pure]
theorem step_st {P:Program} {Q:Exit→Act→World→Prop} {o:Oper} {a:Act} {w w':World} (hrun:(execOp a.eval o).run P w = .ok .skip w') (hd:o.dst = none) (hq:Q .normal a w'):o.wp P a w (fun a' w'=>Q .normal a' w') Q:=by
 unfold Oper.wp
 rw [hrun]
 show Q .normal (a.put o.dst undef) w'
 rw [hd]
 exact hq
def TPhi (w0:World) (p:Nat) (M:WM) (pa:Option Addr) (pc mg mc:Nat) (i:Nat) (v:Value) (w:World):Prop :=
 match i with
 | 0 | 1 | 2 | 5 | 6 | 9 | 10=>v = .pointer (some ⟨p,0,none⟩)
 | 3=>v = .slice pa M.parents.length pc
 | 4=>NSides w0 M.parents v w
 | 7=>v = .pointer (some ⟨p,4,none⟩)
 | 8=>v = .int .i64 M.last
 | 11=>v = .pointer (some ⟨p,5,none⟩)
 | 12=>v = .slice (some ⟨mg,0,none⟩) M.made.length mc
 | 13=>CRow w0 3 (M.made.map (Value.int .i64)) v w
 | 14=>∃ v0 v4,v = .agg #[v0,.slice none 0 0,.slice none 0 0,.int .i64 M.last,v4]∧NSides w0 M.parents v0 w∧CRow w0 3 (M.made.map (Value.int .i64)) v4 w
 | 15=>∃ q,v = .pointer (some ⟨q,0,none⟩)∧w0.heap.size + 1 ≤ q∧w.heap[q]? = some (.cells #[.slice none 0 0,.slice none 0 0,.slice none 0 0,.int .i64 0,.slice none 0 0] 67 (0,0))
 | _=>True
theorem TPhi.stab {w0:World} {p:Nat} {M:WM} {pa:Option Addr} {pc mg mc:Nat}:∀ (i:Nat) (v:Value) (w w':World),Below w.heap.size w w'→TPhi w0 p M pa pc mg mc i v w→TPhi w0 p M pa pc mg mc i v w':=by
 intro i v w w' hR h
 unfold TPhi at h ⊢
 split at h <;> first
  | exact h
  | exact NSides.move h hR
  | exact CRow.move h hR
  | (obtain ⟨v0,v4,h0,h1,h2⟩:=h
     exact ⟨v0,v4,h0,h1.move hR,h2.move hR⟩)
  | (obtain ⟨q,h0,hq,hb⟩:=h
     exact ⟨q,h0,hq,below_blk hR hb⟩)
  | trivial
structure TS0 (w0 w1:World) (b0 q:Nat) (M:WM) (v0 v4:Value):Prop where
 ql:w0.heap.size + 1 ≤ q∧q < b0
 hb0:b0 ≤ w1.heap.size
 below:Below w0.heap.size w0 w1
 r0:w1.heap[w0.heap.size]? = some (.cells #[.slice none 0 0,.slice none 0 0,.slice none 0 0,.int .i64 0,.slice none 0 0] 67 (0,0))
 s:∃ pa pc,v0 = .slice pa M.parents.length pc∧∀ w',(∀ b,b < b0→b ≠ q→b ≠ w0.heap.size→w'.heap[b]? = w1.heap[b]?)→b0 ≤ w'.heap.size→IntArg .i64 w' pa M.parents
 m:∃ pa pc,v4 = .slice pa M.made.length pc∧∀ w',(∀ b,b < b0→b ≠ q→b ≠ w0.heap.size→w'.heap[b]? = w1.heap[b]?)→b0 ≤ w'.heap.size→IntArg .i64 w' pa M.made
theorem TS0.of {w0 w1:World} {q:Nat} {M:WM} {v0 v4:Value} (hq:w0.heap.size + 1 ≤ q) (hb:Below w0.heap.size w0 w1) (hr:w1.heap[w0.heap.size]? = some (.cells #[.slice none 0 0,.slice none 0 0,.slice none 0 0,.int .i64 0,.slice none 0 0] 67 (0,0)))
 (hqb:w1.heap[q]? = some (.cells #[.slice none 0 0,.slice none 0 0,.slice none 0 0,.int .i64 0,.slice none 0 0] 67 (0,0))) (h0:NSides w0 M.parents v0 w1) (h4:CRow w0 3 (M.made.map (Value.int .i64)) v4 w1) (xs:Array Value) :
 TS0 w0 (w1.setRow q xs) w1.heap.size q M v0 v4:=by
 have hset:∀ b,b ≠ q→(w1.setRow q xs).heap[b]? = w1.heap[b]?:=fun b hb=>by
  simp [World.setRow,Array.getElem?_modify,Ne.symm hb]
 have hsz:(w1.setRow q xs).heap.size = w1.heap.size:=by simp [World.setRow]
 obtain ⟨pa,pc,rfl,hs⟩:=h0
 obtain ⟨g,cap,rfl,hg0,hg1,cur,hc1,hc2,hc3,hc4,hc5⟩:=h4
 refine ⟨⟨hq,blk_lt hqb⟩,by rw [hsz];exact Nat.le_refl _,Below.setRow hb (by omega) _,(hset _ (by omega)).trans hr,⟨pa,pc,rfl,fun w' hk hz=>?_⟩,⟨some ⟨g,0,none⟩,cap,by simp,fun w' hk hz=>?_⟩⟩
 ·by_cases hp:M.parents = []
  ·exact .inl hp
  ·right
   obtain ⟨x,hx⟩:=List.exists_mem_of_ne_nil _ hp
   obtain ⟨j,hj⟩:=List.mem_iff_getElem?.1 hx
   obtain ⟨b,o,e,h1,h2,⟨cs,fr,h3⟩,-⟩:=hs j x hj
   have hbq:b ≠ q:=fun e=>by rw [e,hqb] at h3;cases h3
   have hb0:b ≠ w0.heap.size:=fun e=>by rw [e,hr] at h3;cases h3
   refine ⟨b,o,e,Nat.lt_of_lt_of_le h2 hz,fun j x hx=>?_⟩
   obtain ⟨b',o',e',-,-,-,h4⟩:=hs j x hx
   rw [e] at e'
   cases e'
   exact (World.cell?_of_block (a:=⟨b,o + j,none⟩) ((hk b h2 hbq hb0).trans (hset b hbq))).trans h4
 ·right
  have hgq:g ≠ q:=fun e=>by rw [e,hqb] at hc1;cases hc1
  have hg0':g ≠ w0.heap.size:=fun e=>by rw [e,hr] at hc1;cases hc1
  refine ⟨g,0,rfl,Nat.lt_of_lt_of_le hg1 hz,fun j x hx=>?_⟩
  rw [cell_blk (((hk g hg1 hgq hg0').trans (hset g hgq)).trans hc1),Nat.zero_add]
  exact hc5 j _ (by rw [List.getElem?_map,hx];rfl)
theorem grownBy_setCell_at (W:World) (b i:Nat) (v:Value):W.grownBy (W.setCell ⟨b,i,none⟩ v) (some b) :=
 ⟨rfl,rfl,rfl,by simp [World.setCell],fun k _ hk=>Below.heap_setCell _ _ _ k (fun e=>hk (by rw [e]))⟩
theorem row_ne_rowS {w:World} {base base' n n' s s':Nat} {e e':TypeId} {v v':Value} {xs xs':List Value} (hne:e ≠ e') (h:w.ownsRow base e s v n xs) (h':w.ownsRow base' e' s' v' n' xs'):v.ownBlock = none∨v.ownBlock ≠ v'.ownBlock:=by
 rcases h.2 with ⟨rfl,-⟩ | ⟨g,cap,cur,rfl,-,hb,-⟩
 ·exact .inl rfl
 ·right
  rcases h'.2 with ⟨rfl,-⟩ | ⟨g',cap',cur',rfl,-,hb',-⟩
  ·simp [Value.ownBlock]
  ·simp only [Value.ownBlock,ne_eq,Option.some.injEq]
   rintro rfl
   rw [hb] at hb'
   cases hb'
   exact hne rfl
theorem row_ne_blk {w:World} {base n s q:Nat} {e:TypeId} {v:Value} {xs:List Value} (h:w.ownsRow base e s v n xs) (hq:q < base):v.ownBlock = none∨v.ownBlock ≠ some q:=by
 rcases h.2 with ⟨rfl,-⟩ | ⟨g,cap,cur,rfl,hg,-⟩
 ·exact .inl rfl
 ·right
  simp only [Value.ownBlock,ne_eq,Option.some.injEq]
  omega
theorem new_cells (w:World) (cs:List Value) (e:TypeId) (j:Nat) (u:Value) (h:cs[j]? = some u):(w.alloc (.cells cs.toArray e)).cell? ((⟨w.heap.size,0,none⟩:Addr).add j) = some u:=by
 have hadd:(⟨w.heap.size,0,none⟩:Addr).add j = ⟨w.heap.size,j,none⟩:=by unfold Addr.add;split <;> simp_all
 rw [hadd,cell_blk (blk_new w _)]
 simpa using h
theorem row_below {w w':World} {base s n:Nat} {e:TypeId} {v:Value} {xs:List Value} (h:w.ownsRow base e s v n xs) (hb:Below w.heap.size w w'):w'.ownsRow base e s v n xs :=
 h.kept (row:=none) ⟨hb.os,hb.tape,hb.output,hb.size,fun k hk _=>hb.block k hk⟩ (by cases v.ownBlock <;> simp)
theorem row_cells {W:World} {base n:Nat} {e:TypeId} {v:Value} {xs:List Value} (h:W.ownsRow base e 1 v n xs) :
 ∃ a cap,v = .slice a n cap∧∀ k,k < n→∃ g,a = some ⟨g,0,none⟩∧base ≤ g∧g < W.heap.size∧W.cell? ⟨g,k,none⟩ = xs[k]?:=by
 rcases h.2 with ⟨rfl,h0⟩ | ⟨g,cap,cur,rfl,h1,h2,-⟩
 ·subst h0
  exact ⟨none,0,rfl,fun k hk=>by omega⟩
 ·exact ⟨_,cap,rfl,fun k hk=>⟨g,rfl,h1,blk_lt h2,h.cellAt k (by omega)⟩⟩
theorem intArg_below {k:IntKind} {w w':World} {pa:Option Addr} {xs:List Int} (h:IntArg k w pa xs) (hb:Below w.heap.size w w'):IntArg k w' pa xs:=by
 rcases h with h | ⟨b,o,h1,h2,h3⟩
 ·exact .inl h
 ·exact .inr ⟨b,o,h1,Nat.lt_of_lt_of_le h2 hb.size,fun j x hx=>(hb.cell (p:=⟨b,o + j,none⟩) h2).trans (h3 j x hx)⟩
theorem intArg_of_row {w:World} {base:Nat} {e:TypeId} {v:Value} {xs:List Int} (h:w.ownsRow base e 1 v xs.length (xs.map (Value.int .i64))):∃ pa cap,v = .slice pa xs.length cap∧IntArg .i64 w pa xs:=by
 obtain ⟨a,cap,e,hc⟩:=row_cells h
 refine ⟨a,cap,e,?_⟩
 match xs,hc with
 | [],_=>exact .inl rfl
 | x :: l,hc =>
   obtain ⟨g,h1,h2,h3,-⟩:=hc 0 (by simp)
   refine .inr ⟨g,0,h1,h3,fun j y hy=>?_⟩
   obtain ⟨g',h1',-,-,h4⟩:=hc j (List.getElem?_eq_some_iff.1 hy).1
   rw [h1] at h1'
   cases h1'
   rw [Nat.zero_add,h4,List.getElem?_map,hy]
   rfl
end Go.Proofs.YthaliljaglldjaaGreat
