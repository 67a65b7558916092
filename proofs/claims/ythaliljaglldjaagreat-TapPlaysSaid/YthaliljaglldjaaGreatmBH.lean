/- Part of the proof. -/
import Derived.Test.YthaliljaglldjaaGreatmBG
import Derived.Deep.RegionHeld3
namespace Go.Proofs.YthaliljaglldjaaGreat
open Go.RowKit Go.ChangeMaps Go.MapKept
section
variable {w:World} {p:Nat} {M:WM} {F:Nat->Prop}
structure GI (w wr:World) (gs:List Int):Prop where
 b:Bl w wr
 cell:wr.heap[w.heap.size+1]? = some (.cells #[.map (some w.heap.size)] 256 (0,0))
 map:∃ n,n≤gs.length/\HasMap Tryz.prog 25 wr w.heap.size (gof gs) n
theorem GI.below {w wr w':World} {gs:List Int} (h:GI w wr gs) (hb:Bl wr w'):GI w w' gs where
 b:=h.b.trans (hb.mono h.b.size)
 cell:=below_blk hb h.cell
 map:=by
  obtain⟨n,h1,h2⟩:=h.map;exact⟨n,h1,h2.of_block (hb.block _ h2.lt)⟩
theorem GI.look {w wr:World} {gs:List Int} (h:GI w wr gs) {r:Int} (hr:(Lit.int .i64 r).wf=true):(Instr.lookup 256 (.map (some w.heap.size)) (.int .i64 r) false).run Tryz.prog wr=.ok (.int .i64 (if r ∈ gs then 1 else 0)) wr:=by
 obtain⟨n,-,h2⟩:=h.map;rw [h2.look keyedRef Tryz.underlying256 (zeroInt wr) (key_ref hr)];simp only [gof];split <;> rfl
theorem GI.put {w wr:World} {gs:List Int} (h:GI w wr gs) (hl:gs.length<1099511627776) {r:Int} (hr:(Lit.int .i64 r).wf=true) :
 ∃ w',(Instr.mapUpdate 256 (.map (some w.heap.size)) (.int .i64 r) (.int .i64 1)).run Tryz.prog wr=.ok () w'/\GI w w' (gs ++ [r]):=by
 obtain⟨n,h1,h2⟩:=h.map;obtain⟨w',hrun,hm,ht⟩:=h2.store keyedRef Tryz.underlying256 (by unfold maxLen;omega) (key_ref hr) (.int .i64 1) (gof_snoc gs r).1 (gof_snoc gs r).2;have hT:=Turned.of ht;refine⟨w',hrun,?_,(hT.block (by omega)).trans h.cell,_,?_,hm⟩
 ·exact h.b.trans (Keeps.below hT.2 h.b.size (fun x hx=>by omega))
 ·simp only [List.length_append,List.length_singleton];split <;> omega
theorem GI.keeps {w wr w':World} {gs:List Int} {r:Nat} (h:GI w wr gs) (hk:Keeps (fun y=>y=r) wr w') (hr:w.heap.size+1<r):GI w w' gs where
 b:=h.b.trans (Keeps.below hk h.b.size (fun x hx=>by omega))
 cell:=(hk.block _ (blk_lt h.cell) (by omega)).trans h.cell
 map:=by
  obtain⟨n,h1,h2⟩:=h.map;exact⟨n,h1,h2.of_block (hk.block _ h2.lt (by omega))⟩
def Light (t:Th):Prop:=∃ k h vk vn n l tg bi s fu,t=lt k h vk vn n l tg bi s fu/\Plain vk vn
def leans (l:List Int) (t:Th):Prop:=(t.kind≠13/\t.tgt ∈ l)\/t.bi ∈ l
end
section
variable {M:WM}
def lostOf (L:List (Int × Th)) (gs:List Int) (r n lo:Int):Int:=L.foldl (fun lo p=>if gs.contains p.1 && p.2.kind==9 && p.2.tgt==r then min (lo+p.2.n) n else lo) lo
def stayT (M:WM) (gs:List Int) (x:Int × Th):Th :=
 { x.2 with tgt:=if x.2.kind==13 && gs.contains x.2.tgt then 0 else x.2.tgt,lost:=if x.2.kind==8 then lostOf M.things gs x.1 x.2.n x.2.lost else x.2.lost }
def dropM (M:WM) (gs:List Int):WM:={ M with things:=(M.things.filter fun x=>!(gs.contains x.1)).map fun x=>(x.1,stayT M gs x) }
theorem fold_no {α β:Type} (f:β->α->β):∀ (L:List α) (b:β),(∀ y ∈ L,∀ b,f b y=b)->L.foldl f b=b
 | [],b,_=>rfl
 | y :: L,b,h=>by
   rw [List.foldl_cons,h y (List.mem_cons_self ..)];exact fold_no f L b fun z hz=>h z (List.mem_cons_of_mem _ hz)
end
end Go.Proofs.YthaliljaglldjaaGreat
