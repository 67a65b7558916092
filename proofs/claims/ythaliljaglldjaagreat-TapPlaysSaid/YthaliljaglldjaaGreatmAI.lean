/- Part of the proof. -/
import Derived.Test.YthaliljaglldjaaGreatmAH
namespace Go.Proofs.YthaliljaglldjaaGreat
open Go.RowKit Go.ChangeMaps Go.MapKept
section
theorem flat_at {α β:Type} (f:α->List β) (k:Nat) (hf:∀ x,(f x).length=k):∀ (xs:List α) (i:Nat) (x:α),xs[i]? = some x->∀ (j:Nat) (y:β),(f x)[j]? = some y->(xs.flatMap f)[i * k+j]? = some y:=by
 intro xs
 induction xs with
 | nil=>intro i x h;simp at h
 | cons a xs ih =>
   intro i x h j y hy;have hj:j<k:=by have:=(List.getElem?_eq_some_iff.1 hy).1;rw [hf]at this;exact this
   rw [List.flatMap_cons]
   cases i with
   | zero =>
     cases h
     rw [Nat.zero_mul,Nat.zero_add,List.getElem?_append_left (by rw [hf];exact hj)];exact hy
   | succ i =>
     have e:(i+1) * k+j=k+(i * k+j):=by rw [Nat.add_mul];omega
     rw [e,List.getElem?_append_right (by rw [hf];omega),hf,Nat.add_sub_cancel_left];exact ih i x (by simpa using h) j y hy
def vflat (l:List Val) (raw:Nat->Value):List Value:=l.zipIdx.flatMap fun x=>(vcs x.1 (raw x.2)).toList
theorem vflat_at {l:List Val} {raw:Nat->Value} {i:Nat} {v:Val} (h:l[i]? = some v) {k:Nat} {x:Value} (hx:(vcs v (raw i))[k]? = some x):(vflat l raw)[i * 5+k]? = some x :=
 flat_at _ 5 (fun x=>rfl) _ i (v,i) (by rw [List.getElem?_zipIdx,h];simp) k x (by simpa using hx)
theorem infoVal:(Tryz.prog.info? 27).map (fun i=>(i.zero,i.size,i.bytes))=some (some (.agg zV),5,64):=by kernel_rfl
theorem stV_any {w:World} {b i:Nat} {cs vs:Array Value} {e:TypeId} (h:w.heap[b]? = some (.cells cs e (0,0))) (h5:vs.size=5) (hl:i+5≤cs.size) (h1:vs.all (·.oneCell')=true) :
 (stV (.pointer (some ⟨b,i,none⟩)) (.agg vs)).run Tryz.prog w=.ok .skip (w.setRow b (cs.toList.take i ++ vs.toList ++ cs.toList.drop (i+5)).toArray):=by
 have:=run_storeCells_at (P:=Tryz.prog) b i e vs.toList 0 cs w h (by simp;omega) (fun v hv=>(Array.all_eq_true_iff_forall_mem.1 h1) v (by simpa using hv));have e5:vs.toList.length=5:=by simpa using h5
 rw [e5]at this;simp only [Nat.add_zero]at this;have hi:=sizeValue;simp only [stV,Instr.storeAt,Instr.sureAddr,Sem.run_bind,Sem.run_pure,Result.andThen];cases hq:Tryz.prog.info? 27 with
 | none=>rw [hq]at hi;cases hi
 | some k =>
   have hs:vs.size=k.size:=by rw [hq]at hi;simp at hi;omega
   simp [storeVar,sizeOf,typeInfo,hq,Value.cells,hs,this]
end
end Go.Proofs.YthaliljaglldjaaGreat
