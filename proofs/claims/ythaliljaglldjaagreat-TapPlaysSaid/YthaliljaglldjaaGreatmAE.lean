/- Part of the proof. -/
import Derived.Test.YthaliljaglldjaaGreatmAB
import Derived.Test.YthaliljaglldjaaGreatmAD
import Derived.Shelf.SortM.Plain
import Derived.Ground.SlgmProg
import Derived.Shelf.SlGeneric
import Derived.Sort.OwnSortedInts
import Derived.RangeFuncBox
namespace Go.Proofs.YthaliljaglldjaaGreat
set_option maxHeartbeats 16000000
set_option maxRecDepth 20000
open Go.RowKit Go.ChangeMaps Go.MapKept
section
def depV:Nat->Val->Prop
 | 0,v=>v.l = []
 | n+1,v=>v.l.length≤512/\∀ x ∈ v.l,depV n x
theorem chk_len {n r:Int} {s:ByteArray} {len:Nat} (h:chk n s r len=true):len=0:=by
 simp [chk]at h;exact h.2.2.2
theorem depV_nil {n:Nat} {v:Val} (h:v.l = []):depV n v:=by
 cases n with
 | zero=>exact h
 | succ n =>
   show v.l.length≤512/\_;rw [h];exact⟨by simp,fun x hx=>by cases hx⟩
theorem takeL_all {n:Nat}:∀ {l:List Val} {p q:Nat},takeL n p l=some q->∀ x ∈ l,∃ p' q',p'≤p/\takeV n p' x=some q'
 | [],_,_,_,_,hx=>by cases hx
 | y :: l,p,q,h,x,hx=>by
   simp only [takeL,List.foldlM_cons,bind,Option.bind_eq_some_iff]at h;obtain⟨a,h1,h2⟩:=h;have ha:=takeV_lt h1
   rcases List.mem_cons.1 hx with rfl | hx
   ·exact⟨p,a,Nat.le_refl _,h1⟩
   ·obtain⟨p',q',h3,h4⟩:=takeL_all h2 x hx;exact⟨p',q',by omega,h4⟩
theorem depV_of_take:∀ {n p q:Nat} {v:Val},p≤512->takeV n p v=some q->depV n v:=by
 intro n
 induction n with
 | zero =>
   intro p q v hp h
   cases p with
   | zero=>cases h
   | succ p =>
     by_cases h0:v.kind=0
     ·rw [tk0 h0]at h;split at h
      ·exact List.length_eq_zero_iff.1 (chk_len (by assumption))
      ·cases h
     by_cases h1:v.kind=1
     ·rw [tk1 h1]at h;split at h
      ·exact List.length_eq_zero_iff.1 (chk_len (by assumption))
      ·cases h
     by_cases h2:v.kind=2
     ·rw [tk2 h2]at h
      repeat' split at h
      all_goals first
       | cases h;done
       | exact List.length_eq_zero_iff.1 (chk_len (by assumption))
     by_cases h4:v.kind=4
     ·rw [tk4 h4]at h
      repeat' split at h
      all_goals first
       | cases h;done
       | exact List.length_eq_zero_iff.1 (chk_len (by assumption))
     by_cases h3:v.kind=3
     ·rw [tk3z h3]at h
      cases h
     rw [tkx h0 h1 h2 h3 h4]at h
     cases h
 | succ n ih =>
   intro p q v hp h
   cases p with
   | zero=>cases h
   | succ p =>
     by_cases h0:v.kind=0
     ·rw [tk0 h0]at h;split at h
      ·exact depV_nil (List.length_eq_zero_iff.1 (chk_len (by assumption)))
      ·cases h
     by_cases h1:v.kind=1
     ·rw [tk1 h1]at h;split at h
      ·exact depV_nil (List.length_eq_zero_iff.1 (chk_len (by assumption)))
      ·cases h
     by_cases h2:v.kind=2
     ·rw [tk2 h2]at h
      repeat' split at h
      all_goals first
       | cases h;done
       | exact depV_nil (List.length_eq_zero_iff.1 (chk_len (by assumption)))
     by_cases h4:v.kind=4
     ·rw [tk4 h4]at h
      repeat' split at h
      all_goals first
       | cases h;done
       | exact depV_nil (List.length_eq_zero_iff.1 (chk_len (by assumption)))
     by_cases h3:v.kind=3
     ·by_cases hl:v.l.length > p
      ·rw [tk3l h3 hl]at h
       cases h
      ·rw [tk3 h3 hl]at h;split at h
       ·cases h
       ·rename_i q' hq
        refine⟨by omega,fun x hx=>?_⟩;obtain⟨p1,q1,h5,h6⟩:=takeL_all hq x hx;exact ih (by omega) h6
     rw [tkx h0 h1 h2 h3 h4]at h
     cases h
theorem depV_may {v:Val} (h:mayV v=true):depV 16 v:=by
 unfold mayV at h;obtain⟨q,hq⟩:=Option.isSome_iff_exists.1 h;exact depV_of_take (Nat.le_refl _) hq
def zV:Array Value:=#[.int .u8 0,.int .i64 0,.string ⟨#[]⟩,.slice none 0 0,.int .i64 0]
theorem loadV_blk {w:World} {b:Nat} {c:Array Value} {e:TypeId} {fr:Nat × Nat} (hg:w.heap[b]? = some (.cells c e fr)) (hs:c.size=5):(ldV (.pointer (some ⟨b,0,none⟩))).run Tryz.prog w=.ok (.value (.agg c)) w:=by
 have:=loadV_mid (w:=w) (b:=b) (o:=0) (cs:=c.toList) (fun j v hj=>by rw [Nat.zero_add,cell_blk hg];simpa using hj) (by simpa using hs)
 simpa using this
theorem storeV_blk {w:World} {b:Nat} {c c':Array Value} (hg:w.heap[b]? = some (.cells c 27 (0,0))) (hs:c.size=5) (hs':c'.size=5) (h1:c'.all (·.oneCell')=true) :
 (stV (.pointer (some ⟨b,0,none⟩)) (.agg c')).run Tryz.prog w=.ok .skip (w.setRow b c'):=by
 have:=run_storeAt_blk (P:=Tryz.prog) hg (by rw [hs'];exact sizeValue) (by rw [hs,hs']) h1;simp only [stV,Sem.run_bind,this,Result.andThen,Sem.run_pure]
end
end Go.Proofs.YthaliljaglldjaaGreat
namespace Go.Proofs.YthaliljaglldjaaGreat
set_option maxHeartbeats 16000000
set_option maxRecDepth 20000
open Go.Shelf
section
def Tryz.sortLay_ren:Go.Shelf.Ren:=⟨fun | 5=>206 | 8=>252 | 7=>251 | 19=>283 | 20=>284 | 10=>274 | 11=>275 | 12=>276 | 13=>277 | 14=>278 | 15=>279 | 16=>280 | 17=>281 | 18=>282 | 30=>294 | 31=>295 | 32=>296 | 33=>297 | 34=>298 | 35=>299 | 40=>303 | n=>n,fun | 23=>77 | 25=>25 | 3=>3 | 32=>295 | 22=>77 | 0=>0 | 44=>322 | 46=>273 | 4=>4 | 36=>314 | 35=>313 | 41=>319 | 5=>5 | 9=>9 | 53=>331 | 57=>127 | 63=>339 | 64=>216 | n=>n,fun | n=>n⟩
theorem Tryz.sortLay:Go.Proofs.SlLaysM.n5 Tryz.prog Tryz.sortLay_ren:={
 mixed:=by kernel_rfl
 f5:=⟨Tryz.f206.name,by decide,Tryz.func206.trans (congrArg some (by kernel_rfl))⟩
 f7:=⟨Tryz.f251.name,by decide,Tryz.func251.trans (congrArg some (by kernel_rfl))⟩
 f8:=Tryz.func252.trans (congrArg some (by kernel_rfl))
 f10:=⟨Tryz.f274.name,by decide,Tryz.func274.trans (congrArg some (by kernel_rfl))⟩
 f11:=⟨Tryz.f275.name,by decide,Tryz.func275.trans (congrArg some (by kernel_rfl))⟩
 f12:=⟨Tryz.f276.name,by decide,Tryz.func276.trans (congrArg some (by kernel_rfl))⟩
 f13:=⟨Tryz.f277.name,by decide,Tryz.func277.trans (congrArg some (by kernel_rfl))⟩
 f14:=⟨Tryz.f278.name,by decide,Tryz.func278.trans (congrArg some (by kernel_rfl))⟩
 f15:=⟨Tryz.f279.name,by decide,Tryz.func279.trans (congrArg some (by kernel_rfl))⟩
 f16:=⟨Tryz.f280.name,by decide,Tryz.func280.trans (congrArg some (by kernel_rfl))⟩
 f17:=⟨Tryz.f281.name,by decide,Tryz.func281.trans (congrArg some (by kernel_rfl))⟩
 f18:=⟨Tryz.f282.name,by decide,Tryz.func282.trans (congrArg some (by kernel_rfl))⟩
 f19:=Tryz.func283.trans (congrArg some (by kernel_rfl))
 f20:=Tryz.func284.trans (congrArg some (by kernel_rfl))
 f30:=⟨Tryz.f294.name,by decide,Tryz.func294.trans (congrArg some (by kernel_rfl))⟩
 f31:=Tryz.func295.trans (congrArg some (by kernel_rfl))
 f32:=Tryz.func296.trans (congrArg some (by kernel_rfl))
 f33:=⟨Tryz.f297.name,by decide,Tryz.func297.trans (congrArg some (by kernel_rfl))⟩
 f34:=⟨Tryz.f298.name,by decide,Tryz.func298.trans (congrArg some (by kernel_rfl))⟩
 f35:=⟨Tryz.f299.name,by decide,Tryz.func299.trans (congrArg some (by kernel_rfl))⟩
 f40:=⟨Tryz.f303.name,by decide,Tryz.func303.trans (congrArg some (by kernel_rfl))⟩
 t0:=Tryz.underlying0
 a0:=Tryz.isAgg0
 z0:=Tryz.sizeOf0
 v0:=Tryz.zeroValue0
 t3:=Tryz.underlying3
 a3:=Tryz.isAgg3
 z3:=Tryz.sizeOf3
 v3:=Tryz.zeroValue3
 t4:=Tryz.underlying4
 a4:=Tryz.isAgg4
 z4:=Tryz.sizeOf4
 v4:=Tryz.zeroValue4
 t5:=Tryz.underlying5
 a5:=Tryz.isAgg5
 z5:=Tryz.sizeOf5
 v5:=Tryz.zeroValue5
 t9:=Tryz.underlying9
 a9:=Tryz.isAgg9
 z9:=Tryz.sizeOf9
 v9:=Tryz.zeroValue9
 t22:=Tryz.underlying77
 a22:=Tryz.isAgg77
 z22:=Tryz.sizeOf77
 v22:=Tryz.zeroValue77
 t23:=Tryz.underlying77
 a23:=Tryz.isAgg77
 z23:=Tryz.sizeOf77
 v23:=Tryz.zeroValue77
 t25:=Tryz.underlying25
 a25:=Tryz.isAgg25
 z25:=Tryz.sizeOf25
 v25:=Tryz.zeroValue25
 t32:=Tryz.underlying295
 a32:=Tryz.isAgg295
 z32:=Tryz.sizeOf295
 v32:=Tryz.zeroValue295
 t35:=Tryz.underlying313
 a35:=Tryz.isAgg313
 z35:=Tryz.sizeOf313
 v35:=Tryz.zeroValue313
 t36:=Tryz.underlying314
 a36:=Tryz.isAgg314
 z36:=Tryz.sizeOf314
 v36:=Tryz.zeroValue314
 t41:=Tryz.underlying319
 a41:=Tryz.isAgg319
 z41:=Tryz.sizeOf319
 v41:=Tryz.zeroValue319
 t44:=Tryz.underlying322
 a44:=Tryz.isAgg322
 z44:=Tryz.sizeOf322
 v44:=Tryz.zeroValue322
 t46:=Tryz.underlying273
 a46:=Tryz.isAgg273
 z46:=Tryz.sizeOf273
 v46:=Tryz.zeroValue273
 t53:=Tryz.underlying331
 a53:=Tryz.isAgg331
 z53:=Tryz.sizeOf331
 v53:=Tryz.zeroValue331
 t57:=Tryz.underlying127
 a57:=Tryz.isAgg127
 z57:=Tryz.sizeOf127
 v57:=Tryz.zeroValue127
 t63:=Tryz.underlying339
 a63:=Tryz.isAgg339
 z63:=Tryz.sizeOf339
 v63:=Tryz.zeroValue339
 t64:=Tryz.underlying216
 a64:=Tryz.isAgg216
 z64:=Tryz.sizeOf216
 v64:=Tryz.zeroValue216 }
end
end Go.Proofs.YthaliljaglldjaaGreat
namespace Go.Proofs.YthaliljaglldjaaGreat
set_option maxHeartbeats 16000000
set_option maxRecDepth 20000
open Go.RowKit Go.ChangeMaps Go.MapKept
open Go.Maps (Keyed)
section
def Rg (w:World) (b r:Nat) (f:Value->Option Value) (L:Int->Bool) (cnt:Nat):Prop :=
 ∃ (D:DataW Value) (n:Nat) (left:Lit->Bool),w.ranges Tryz.prog 25 tokR b r n D left cnt /\
   (∀ key kl,keyOf Tryz.prog 25 key=some kl->Maps.has D kl=(f key).isSome/\∀ v,f key=some v->∀ zd,D.atKey kl zd=.held v) /\
   ∀ x,(Lit.int .i64 x).wf=true->left (.int .i64 x)=L x
section
variable {w:World} {b r:Nat} {f:Value->Option Value} {L:Int->Bool} {cnt:Nat}
theorem Rg.of_blocks {w':World} (h:Rg w b r f L cnt) (hb:w'.heap[b]? = w.heap[b]?) (hr:w'.heap[r]? = w.heap[r]?):Rg w' b r f L cnt:=by
 obtain⟨D,n,left,⟨es,clock,since,seen,c0,h1,h2,h3,h4,h5,h6⟩,r'⟩:=h;exact⟨D,n,left,⟨es,clock,since,seen,c0,hb.trans h1,h2,h3,h4,hr.trans h5,h6⟩,r'⟩
theorem Rg.lt (h:Rg w b r f L cnt):r<w.heap.size:=by
 obtain⟨D,n,left,h,_⟩:=h;exact h.lt
theorem Rg.ltb (h:Rg w b r f L cnt):b<w.heap.size:=by
 obtain⟨D,n,left,h,_⟩:=h;exact h.owns.lt
theorem Rg.below {w':World} (h:Rg w b r f L cnt) (hb:Bl w w'):Rg w' b r f L cnt:=h.of_blocks (hb.block b h.ltb) (hb.block r h.lt)
theorem Rg.left_eq (h:Rg w b r f L cnt):w.rangeLeft b r=cnt:=by
 obtain⟨D,n,left,h,_⟩:=h;exact h.left_eq
end
section
variable {w:World} {ops:Array Oper} {rest:List Oper} {o:Oper} {a:Act} {Q:Exit->Act->World->Prop}
theorem range_H (hg:o.guard=none) (m:Operand) (t e:TypeId) (hop:o.op=Op.range t m) (ht:Tryz.prog.underlying t=some (.map 25 e)) (b n:Nat) (f:Value->Option Value)
 (hm:a.eval m=.map (some b)) (h:HasMap Tryz.prog 25 w b f n)
 (hK:∀ w' L cnt,Rg w' b w.heap.size f L cnt->(∀ x,(Lit.int .i64 x).wf=true->L x=(f (.int .i64 x)).isSome)->Bl w w'->wpList Tryz.prog ops Q rest (a.put o.dst (.pointer (some ⟨w.heap.size,0,none⟩))) w') :
 wpList Tryz.prog ops Q (o :: rest) a w:=by
 obtain⟨D,h1,h2,h3⟩:=h;refine wpList_range_own w hg m t hop 25 e keyedRef ht tokR b n D hm h1 fun w' hrg hgr hsz=>?_;refine hK w' (fun x=>(f (.int .i64 x)).isSome) (Maps.size D) ⟨D,n,Maps.has D,hrg,h3,fun x hx=>(h3 _ _ (key_ref hx)).1⟩ (fun x _=>rfl) ?_;exact⟨hgr.os,hgr.tape,hgr.output,hgr.size,fun k hk=>hgr.block k hk (by simp)⟩
theorem next_H (hg:o.guard=none) (it:Operand) (hop:o.op=Op.next it false) (b r:Nat) (f:Value->Option Value) (L:Int->Bool) (cnt:Nat)
 (hit:a.eval it=.pointer (some ⟨r,0,none⟩)) (h:Rg w b r f L cnt)
 (hDone:(∀ x,(Lit.int .i64 x).wf=true->L x=false)->wpList Tryz.prog ops Q rest (a.put o.dst (.tuple #[.bool false])) w)
 (hMore:∀ (x:Int) (v:Value) (w':World) (cnt':Nat),(Lit.int .i64 x).wf=true->L x=true->f (.int .i64 x)=some v->Rg w' b r f (fun z=>L z && !decide (z=x)) cnt'->cnt'<cnt ->
  Keeps (fun y=>y=r) w w'->w'.heap.size=w.heap.size->(Instr.entry (.pointer (some ⟨r,0,none⟩))).run Tryz.prog w'=.ok (.tuple #[.int .i64 x,v]) w'->wpList Tryz.prog ops Q rest (a.put o.dst (.tuple #[.bool true,.int .i64 x,v])) w') :
 wpList Tryz.prog ops Q (o :: rest) a w:=by
 obtain⟨D,n,left,h1,h2,h3⟩:=h
 refine wpList_next_ranges w hg it hop 25 keyedRef tokR (Value.int .i64) (fun v:Value=>v) (fun key kl hk=>by obtain⟨x,rfl,_⟩:=Maps.keyOf_int_inv Tryz.underlying25 hk;exact⟨x,rfl⟩) (fun v y _=>⟨v,rfl⟩) b r n D left cnt hit h1
  (fun _ hl=>hDone fun x hx=>(h3 x hx).symm.trans (hl _)) ?_
 intro x v kl y w' cnt' hkey hl hv hat hrg hlt hgr hsz hen;obtain⟨x',ex,rfl,hx⟩:=Maps.keyOf_int_inv Tryz.underlying25 hkey
 cases ex
 obtain⟨g1,g2⟩:=h2 _ _ hkey;have ey:=(tokR_inj hv).1
 have hf:f (.int .i64 x)=some v:=by
  cases hfx:f (.int .i64 x)with
  | none =>
    rw [hfx]at g1;have h5:=Maps.atKey_of_not_has (D:=D) (k:=.int .i64 x) (by simpa using g1) .nil;have h6:=hat .nil;rw [h5,ey]at h6
    cases h6
  | some u =>
    have h6:=g2 u hfx .nil;rw [hat .nil,ey]at h6
    cases h6
    rfl
 refine hMore x v w' cnt' hx ((h3 x hx).symm.trans hl) hf ⟨D,n,_,hrg,h2,fun z hz=>?_⟩ hlt (Keeps.of_grown hgr (fun z hz=>by cases hz;rfl)) hsz hen;show (left (.int .i64 z) && !(Lit.int .i64 z).sameKey (.int .i64 x))=_;rw [h3 z hz];simp [Lit.sameKey]
end
theorem thf_some {M:WM} {bl:Int->Nat} {x:Int} {v:Value} (h:thf M bl (.int .i64 x)=some v):∃ t,M.at x=some t/\v=.pointer (some ⟨bl x,0,none⟩):=by
 simp only [thf]at h;rw [Option.map_eq_some_iff]at h;obtain⟨t,h1,h2⟩:=h;exact⟨t,h1,h2.symm⟩
end
end Go.Proofs.YthaliljaglldjaaGreat
namespace Go.Proofs.YthaliljaglldjaaGreat
set_option maxHeartbeats 16000000
set_option maxRecDepth 20000
open Go.RowKit
section
theorem region_class {P:Program} {C:World->Prop} {id:Nat} {Q:Exit->Act->World->Prop} {a:Act} {w:World} {l:List Oper} (hm:P.follows .mixedOrders=true) (hB:Region.lexB .any l.toArray=true) (hC:C w.drew)
 (h:wpQuiet P l.toArray C (fun a'=>∀ w',C w'->Q .normal a' w') l a):(Code.region id l.toArray true).wp P Q a w :=
 wp_region_quiet (C:=C) hm hB hC (by simpa using h)
theorem below_drew {w:World}:Bl w w.drew:=⟨rfl,rfl,rfl,Nat.le_refl _,fun _ _=>rfl⟩
end
end Go.Proofs.YthaliljaglldjaaGreat
namespace Go.Proofs.YthaliljaglldjaaGreat
set_option maxHeartbeats 16000000
set_option maxRecDepth 20000
open Go.RowKit Go.ChangeMaps Go.MapKept
section
variable {w:World} {p:Nat} {M:WM} {F:Nat->Prop}
structure Cs (M:WM) (L:Int->Bool) (ss:List Int):Prop where
 nd:ss.Nodup
 mem:∀ x,x ∈ ss ↔ ((M.at x).isSome=true/\L x=false)
theorem Cs.start {M:WM} (hM:M.ok) {bl:Int->Nat} {L:Int->Bool} (h:∀ x,(Lit.int .i64 x).wf=true->L x=(thf M bl (.int .i64 x)).isSome):Cs M L [] where
 nd:=List.nodup_nil
 mem:=fun x=>by
  constructor
  ·intro hx
   cases hx
  ·rintro ⟨h1,h2⟩;obtain⟨t,ht⟩:=Option.isSome_iff_exists.1 h1;rw [h x (hM.at_wf ht)]at h2;simp [thf,ht]at h2
theorem Cs.step {M:WM} {L:Int->Bool} {ss:List Int} (h:Cs M L ss) {x:Int} {t:Th} (hx:M.at x=some t) (hL:L x=true):Cs M (fun z=>L z && !decide (z=x)) (ss ++ [x]) where
 nd:=by
  rw [List.nodup_append];refine⟨h.nd,by simp,fun a ha b hb=>?_⟩;simp at hb;subst hb;intro e;subst e;rw [((h.mem a).1 ha).2]at hL
  cases hL
 mem:=fun y=>by
  rw [List.mem_append,h.mem y]
  by_cases e:y=x
  ·subst e;simp [hx]
  ·simp [e]
theorem Cs.done {M:WM} (hM:M.ok) {L:Int->Bool} {ss:List Int} (h:Cs M L ss) (hL:∀ x,(Lit.int .i64 x).wf=true->L x=false):(ss.mergeSort fun x y=>decide (x≤y))=M.things.map (·.1)/\ss.length=M.things.length:=by
 have hk:(M.things.map (·.1)).Pairwise (fun a b=>a<b):=by
  rw [List.pairwise_map];exact hM.keys
 have hnd:(M.things.map (·.1)).Nodup:=hk.imp (fun h=>by omega)
 have hp:ss.Perm (M.things.map (·.1)):=(List.perm_ext_iff_of_nodup h.nd hnd).2 fun x=>by
  rw [h.mem x,List.mem_map];constructor
  ·rintro ⟨h1,-⟩;obtain⟨t,ht⟩:=Option.isSome_iff_exists.1 h1;exact⟨(x,t),at_mem ht,rfl⟩
  ·rintro ⟨y,hy,rfl⟩;have:=hM.at_of_mem hy;exact⟨by rw [this];rfl,hL _ (hM.at_wf this)⟩
 have tr:∀ a b c:Int,decide (a≤b)=true->decide (b≤c)=true->decide (a≤c)=true:=fun a b c h1 h2=>by simp at *;omega
 have tot:∀ a b:Int,(decide (a≤b) || decide (b≤a))=true:=fun a b=>by simp;omega
 refine⟨?_,by rw [hp.length_eq,List.length_map]⟩;exact List.Perm.eq_of_pairwise (le:=fun a b=>decide (a≤b)=true) (fun a b _ _ h1 h2=>by simp at h1 h2;omega) (List.pairwise_mergeSort tr tot ss) (hk.imp (fun h=>by simp;omega)) ((List.mergeSort_perm ss _).trans hp)
theorem nodup_len:∀ (l m:List Int),l.Nodup->(∀ x ∈ l,x ∈ m)->l.length≤m.length
 | [],_,_,_=>Nat.zero_le _
 | x :: l,m,h,hm=>by
   obtain⟨h1,h2⟩:=List.nodup_cons.1 h;have hx:=hm x (by simp);have:=nodup_len l (m.erase x) h2 (fun y hy=>(List.mem_erase_of_ne (fun e:y=x=>h1 (e ▸ hy))).2 (hm y (by simp [hy])));rw [List.length_erase_of_mem hx]at this;have:=List.length_pos_of_mem hx;simp only [List.length_cons];omega
theorem Cs.len {M:WM} {L:Int->Bool} {ss:List Int} (h:Cs M L ss):ss.length≤M.things.length:=by
 have:=nodup_len ss (M.things.map (·.1)) h.nd (fun x hx=>by
  obtain⟨t,ht⟩:=Option.isSome_iff_exists.1 ((h.mem x).1 hx).1
  exact List.mem_map.2 ⟨(x,t),at_mem ht,rfl⟩)
 simpa using this
theorem WM.ok.len_le {M:WM} (hM:M.ok):(M.things.length:Int)≤M.last:=by
 have key:∀ (l:List (Int × Th)) (b:Int),l.Pairwise (fun x y=>x.1<y.1)->(∀ x ∈ l,b<x.1/\x.1≤M.last)->b≤M.last->(l.length:Int)+b≤M.last:=by
  intro l
  induction l with
  | nil=>intro b _ _ h;simpa using h
  | cons x l ih =>
    intro b hp hx hb;obtain⟨h1,h2⟩:=List.pairwise_cons.1 hp;have hx0:=hx x (by simp);have:=ih x.1 h2 (fun y hy=>⟨h1 y hy,(hx y (by simp [hy])).2⟩) hx0.2;simp only [List.length_cons];omega
 have:=key M.things 0 hM.keys (fun x hx=>hM.range x hx) hM.last.1;omega
def RefsPost (w:World) (M:WM) (e:Ending) (w':World):Prop :=
 ∃ g cap,e=.returned (.slice (some ⟨g,0,none⟩) M.things.length cap)/\w'.ownsRow w.heap.size 25 1 (.slice (some ⟨g,0,none⟩) M.things.length cap) M.things.length ((M.things.map (·.1)).map (Value.int .i64))/\Bl w w'
theorem refs_W (hW:IsW w p M F):Calls Tryz.prog 112 #[.pointer (some ⟨p,0,none⟩)] w (RefsPost w M):=by
 obtain⟨pa,pc,cg,cc,mg,mc,tb,fb,fn,bl,hV⟩:=hW;have HV:=(show Hid _ from hV);have hlast:=hV.ok.len_le;have hl2:=hV.ok.last.2;have hn:(M.things.length:Int)≤1099511627776:=by omega
 have c2:=hV.c2;have hlen:=hV.things.len Tryz.underlying137;obtain⟨i0,hi,hz0,hz1,hz2⟩:=info_parts infoRef;obtain⟨w1,hmk,hrow,hgr⟩:=run_make_own (P:=Tryz.prog) (w:=w) w.heap.size 77 25 i0 (.int .i64 0) 1 Tryz.underlying77 hi hz0 hz1 .i64 .i64 M.things.length (by rw [hz2];omega) (by unfold maxLen;omega) (Nat.le_refl _);have hb1:Bl w w1:=⟨hgr.os,hgr.tape,hgr.output,hgr.size,fun k hk=>hgr.block k hk (by simp)⟩;have HN:=(show Hid ((M.things.length:Int)≤1099511627776)from hn);have HR:Hid (w1.ownsRow w.heap.size 25 1 (.slice (some ⟨w.heap.size,0,none⟩) 0 M.things.length) 0 []):=hrow;have HB1:=(show Hid (Bl w w1)from hb1);have c21:=(hV.below hb1).c2;have HT1:=(show Hid _ from(hV.below hb1).things);clear hV hlast hl2 hn hrow hgr hb1 hi hz0 hz1 hz2
 go_enter Tryz.func112,Tryz.ntmps112
 go_wp2_with (first | (at_range;refine range_H rfl _ 137 146 rfl Tryz.underlying137 tb _ (thf M bl) rfl HT1.out ?_;intro w3 L cnt hrg hL hb3))
 have HG3:=(show Hid (Rg w3 tb w1.heap.size (thf M bl) L cnt)from hrg);have HC3:=(show Hid (Cs M L [])from Cs.start HV.out.ok hL);have HB3:=(show Hid (Bl w w3)from HB1.out.trans (hb3.mono HB1.out.size));have HR3:Hid (w3.ownsRow w.heap.size 25 1 (.slice (some ⟨w.heap.size,0,none⟩) 0 M.things.length) 0 []):=World.ownsRow.kept (row:=none) HR.out ⟨hb3.os,hb3.tape,hb3.output,hb3.size,fun k hk _=>hb3.block k hk⟩ (Or.inr (by simp [Value.ownBlock]));have hr0:w.heap.size≤w1.heap.size:=HB1.out.size
 have Hr0:=(show Hid (w.heap.size<w1.heap.size)from by
  rcases HR.out.2 with ⟨h,-⟩ | ⟨g,cap,cur,h1,h2,h3,-⟩
  ·cases h
  ·cases h1
   exact blk_lt h3)
 clear hrg hL hb3 c21 HT1 HR hmk hlen c2 hr0;generalize w1.heap.size=r0 at *;simp only [Go.Act.put,List.setIfInBounds_toArray,List.set_cons_succ,List.set_cons_zero]
 go_loopw [3] (fun v wr=>∃ L cnt ss,Hid (Rg wr tb r0 (thf M bl) L cnt)/\Hid (Cs M L ss)/\Hid (Bl w wr)/\Hid (∃ g cap,v=.slice (some ⟨g,0,none⟩) ss.length cap)/\Hid (wr.ownsRow w.heap.size 25 1 v ss.length (ss.map (Value.int .i64)))) (fun _ wr=>wr.rangeLeft tb r0)
 case atStart=>exact⟨L,cnt,[],HG3,HC3,HB3,⟨_,_,rfl⟩,HR3⟩
 case round =>
  clear HG3 HC3 HB3 HR3;obtain⟨L,cnt,ss,HG,HC,HB,HS,HR⟩:=hrel;obtain⟨g,cap,rfl⟩:=HS.out
  go_wp2_with (first | (at_next;refine next_H rfl _ rfl tb r0 (thf M bl) L cnt rfl HG.out ?_ ?_))
  ·intro hdone;obtain⟨hsrt,hlen⟩:=HC.out.done HV.out.ok hdone
   rcases HR.out.2 with ⟨h,-⟩ | ⟨g',cap',cur,hv,hbase,hb,h1,h2,h3,h4⟩
   ·cases h
   cases hv
   have hsz:ss.length<4611686018427387904:=by have:=HN.out;omega
   have hH:=holds_of_blockI hb (by simpa using h4);have hs:=AnyM.slices_Sort_int Tryz.sortLay g 0 cap ss wr hH (blk_lt hb) hsz
   have hs2:Calls Tryz.prog 206 #[.slice (some ⟨g,0,none⟩) ss.length cap] wr (fun e w'=>e=.returned (.tuple #[])/\Hid (RefsPost w M (.returned (.slice (some ⟨g,0,none⟩) ss.length cap)) w')):=by
    refine Calls.mono hs ?_;rintro e w' ⟨rfl,n,os,rfl⟩;refine⟨rfl,g,cap,by rw [hlen],?_,?_⟩
    ·have:=ownsRow_sortedI (n:=n) (os:=os) (ts:=ss.mergeSort fun x y=>decide (x≤y)) (by simp) hbase hb h1 h2 h3;rw [<- hlen,← hsrt];exact this
    ·exact HB.out.grown (grownBy_sortedI _) HB.out.size (fun j hj=>by cases hj;exact hbase)
   have HS2:=(show Hid _ from hs2);clear hsrt hlen hb h1 h2 h3 h4 hH hs hs2 hsz hbase HR HG
   go_wp2_with fail
   refine Calls.mono HS2.out ?_;rintro e w' ⟨rfl,HP⟩
   go_wp2_with fail
   go_ret
   exact HP.out
  ·intro x v w4 cnt' hx hLx hf hrg' hlt hk hsz hen;obtain⟨t,ht,rfl⟩:=thf_some hf;have HC4:=(show Hid (Cs M (fun z=>L z && !decide (z=x)) (ss ++ [x]))from HC.out.step ht hLx);have hgr4:wr.grownBy w4 (some r0):=⟨hk.os,hk.tape,hk.output,hk.size,fun b hb hne=>hk.block b hb (fun e=>hne (by rw [e]))⟩
   have hgr0:g<wr.heap.size/\w.heap.size≤g/\g≠r0:=by
    obtain⟨D,n,left,hrr,-⟩:=HG.out;have h1:=row_ne_iter HR.out hrr;have h2:=HR.out.lt g rfl;exact⟨h2.2,h2.1,fun e=>h1 (by rw [e];rfl)⟩
   have HR4:Hid (w4.ownsRow w.heap.size 25 1 (.slice (some ⟨g,0,none⟩) ss.length cap) ss.length (ss.map (Value.int .i64))):=World.ownsRow.kept (row:=some r0) HR.out hgr4 (Or.inr (by simp [Value.ownBlock];exact hgr0.2.2));have HG4:=(show Hid (Rg w4 tb r0 (thf M bl) (fun z=>L z && !decide (z=x)) cnt')from hrg');have Hlt:=(show Hid (cnt'<cnt)from hlt);have Hsz4:=(show Hid (w4.heap.size=wr.heap.size)from hsz);have Hcnt:=(show Hid (wr.rangeLeft tb r0=cnt)from HG.out.left_eq);have HB4:Hid (Bl w w4):=HB.out.grown hgr4 HB.out.size (fun j hj=>by cases hj;exact Nat.le_of_lt Hr0.out);have hbase:w.heap.size≤w4.heap.size:=HB4.out.size;have hown:=HR4.out
   have Hp:Hid ((ss.length:Int)≤1099511627777):=by
    have h1:=HC.out.len;have h2:=HN.out;show _≤_;omega
   have Hg0:=(show Hid _ from hgr0);have HOwn:Hid (w4.ownsRow w.heap.size 25 1 (.slice (some ⟨g,0,none⟩) ss.length cap) ss.length (ss.map (Value.int .i64))):=hown;have Htb:Hid (tb<w.heap.size):=HV.out.lt _ HV.out.own.2.2.2.1;clear hLx hf hrg' hlt hk hsz ht hgr4 hgr0 HG HR HR4 HC
   go_wp2_with (first
    | (at_builtin;refine append_ref rfl _ _ rfl w.heap.size _ ss rfl HOwn.out x rfl Hp hbase ?_;intro v' w5 hown' hg5 hb5))
   have hg5':w4.grownBy w5 (some g):=hg5;have hsz4:wr.heap.size≤w4.heap.size:=by have:=HG4.out.lt;have:=Hsz4.out;omega
   have hRg5:Rg w5 tb r0 (thf M bl) (fun z=>L z && !decide (z=x)) cnt':=HG4.out.of_blocks (hg5'.block tb HG4.out.ltb (fun e=>by cases e;have:=Htb.out;have:=Hg0.out.2.1;omega)) (hg5'.block r0 HG4.out.lt (fun e=>by cases e;exact Hg0.out.2.2 rfl));have HRg5:=(show Hid (Rg w5 tb r0 (thf M bl) (fun z=>L z && !decide (z=x)) cnt')from hRg5);have HB5:=(show Hid (Bl w w5)from HB4.out.trans hb5);have HO5:Hid (w5.ownsRow w.heap.size 25 1 v' (ss ++ [x]).length ((ss ++ [x]).map (Value.int .i64))):=hown'
   have HS5:Hid (∃ g cap,v'=.slice (some ⟨g,0,none⟩) (ss ++ [x]).length cap):=by
    obtain⟨g5,cap5,h5⟩:=ownsRow_succ (k:=ss.length) (by simpa using hown');exact⟨g5,cap5,by rw [h5];simp⟩
   refine⟨⟨_,cnt',ss ++ [x],HRg5,HC4,HB5,HS5,HO5⟩,?_⟩;rw [Hcnt.out,HRg5.out.left_eq];exact Hlt.out
end
end Go.Proofs.YthaliljaglldjaaGreat
