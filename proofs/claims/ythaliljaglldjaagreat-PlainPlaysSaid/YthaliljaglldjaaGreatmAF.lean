/- Part of the proof. -/
import Derived.Test.YthaliljaglldjaaGreatmAC
import Derived.Test.YthaliljaglldjaaGreatmAE
import Derived.Shelf.SortM.Plain
import Derived.Ground.SlgmProg
import Derived.Shelf.SlGeneric
import Derived.Sort.OwnSortedInts
import Derived.RangeFuncBox
namespace Go.Proofs.YthaliljaglldjaaGreat
set_option maxHeartbeats 16000000
set_option maxRecDepth 20000
open Go.RowKit Go.ChangeMaps Go.MapKept
section
def bY:Nat->Val->Prop
 | 0,v=>v.l = []
 | n+1,v=>v.l.length≤512/\∀ x ∈ v.l,bY n x
theorem db {n r:Int} {s:ByteArray} {len:Nat} (h:dC n s r len=true):len=0:=by
 simp [dC]at h;exact h.2.2.2
theorem dW {n:Nat} {v:Val} (h:v.l = []):bY n v:=by
 cases n with
 | zero=>exact h
 | succ n =>
   show v.l.length≤512/\_;rw [h];exact⟨by simp,fun x hx=>by cases hx⟩
theorem dR {n:Nat}:∀ {l:List Val} {p q:Nat},bc n p l=some q->∀ x ∈ l,∃ p' q',p'≤p/\aP n p' x=some q'
 | [],_,_,_,_,hx=>by cases hx
 | y :: l,p,q,h,x,hx=>by
   simp only [bc,List.foldlM_cons,bind,Option.bind_eq_some_iff]at h;obtain⟨a,h1,h2⟩:=h;have ha:=bJ h1
   rcases List.mem_cons.1 hx with rfl | hx
   ·exact⟨p,a,aH,h1⟩
   ·obtain⟨p',q',h3,h4⟩:=dR h2 x hx;exact⟨p',q',by omega,h4⟩
theorem fN:∀ {n p q:Nat} {v:Val},p≤512->aP n p v=some q->bY n v:=by
 intro n
 induction n with
 | zero =>
   intro p q v hp h
   cases p with
   | zero=>cases h
   | succ p =>
     by_cases h0:v.kind=0
     ·rw [sq h0]at h;split at h
      ·exact List.length_eq_zero_iff.1 (db (by assumption))
      ·cases h
     by_cases h1:v.kind=1
     ·rw [sw h1]at h;split at h
      ·exact List.length_eq_zero_iff.1 (db (by assumption))
      ·cases h
     by_cases h2:v.kind=2
     ·rw [so h2]at h
      repeat' split at h
      all_goals first
       | cases h;done
       | exact List.length_eq_zero_iff.1 (db (by assumption))
     by_cases h4:v.kind=4
     ·rw [sr h4]at h
      repeat' split at h
      all_goals first
       | cases h;done
       | exact List.length_eq_zero_iff.1 (db (by assumption))
     by_cases h3:v.kind=3
     ·rw [uG h3]at h
      cases h
     rw [wS h0 h1 h2 h3 h4]at h
     cases h
 | succ n ih =>
   intro p q v hp h
   cases p with
   | zero=>cases h
   | succ p =>
     by_cases h0:v.kind=0
     ·rw [sq h0]at h;split at h
      ·exact dW (List.length_eq_zero_iff.1 (db (by assumption)))
      ·cases h
     by_cases h1:v.kind=1
     ·rw [sw h1]at h;split at h
      ·exact dW (List.length_eq_zero_iff.1 (db (by assumption)))
      ·cases h
     by_cases h2:v.kind=2
     ·rw [so h2]at h
      repeat' split at h
      all_goals first
       | cases h;done
       | exact dW (List.length_eq_zero_iff.1 (db (by assumption)))
     by_cases h4:v.kind=4
     ·rw [sr h4]at h
      repeat' split at h
      all_goals first
       | cases h;done
       | exact dW (List.length_eq_zero_iff.1 (db (by assumption)))
     by_cases h3:v.kind=3
     ·by_cases hl:v.l.length > p
      ·rw [nh h3 hl]at h
       cases h
      ·rw [uI h3 hl]at h;split at h
       ·cases h
       ·rename_i q' hq
        refine⟨by omega,fun x hx=>?_⟩;obtain⟨p1,q1,h5,h6⟩:=dR hq x hx;exact ih (by omega) h6
     rw [wS h0 h1 h2 h3 h4]at h
     cases h
theorem bA {v:Val} (h:ay v=true):bY 16 v:=by
 unfold ay at h;obtain⟨q,hq⟩:=Option.isSome_iff_exists.1 h;exact fN aH hq
def zV:Array Value:=#[U 0,J 0,T_,S_,J 0]
theorem AC (w:World) {n:Nat} (hn:n≤1024):(Instr.makeSlice 24 (J (n:Int)) (J (n:Int))).run Tryz.prog w=.ok (.slice (some ⟨w.heap.size,0,none⟩) n n) (w.alloc (.cells (madeCells zV (n * 5)) 27)):=by
 obtain⟨i,hi,hz',h1,h2⟩:=info_parts (show (Tryz.prog.info? 27).map (fun i=>(i.zero,i.size,i.bytes))=some (some (.agg zV),5,64) by kernel_rfl);have:=run_makeSlice (P:=Tryz.prog) w 24 27 i _ Tryz.underlying24 hi hz' .i64 .i64 n n (by omega) (Int.le_refl _) (by rw [h1];omega) (by rw [h2];omega) (by omega);rw [h1]at this
 simpa [Value.cells]using this
theorem qt {w:World} {b i:Nat} {cs vs:Array Value} (h:w.heap[b]? = some (.cells cs 27 (0,0))) (h5:vs.size=5) (hl:i+5≤cs.size) (h1:vs.all (·.oneCell')=true) :
 (bZ (R_ b i) (.agg vs)).run Tryz.prog w=.ok .skip (w.setRow b (cs.toList.take i ++ vs.toList ++ cs.toList.drop (i+5)).toArray):=by
 have:=run_storeCells_at (P:=Tryz.prog) b i 27 vs.toList 0 cs w h (by simp;omega) (fun v hv=>(Array.all_eq_true_iff_forall_mem.1 h1) v (by simpa using hv));have e5:vs.toList.length=5:=by simpa using h5
 rw [e5]at this;simp only [Nat.add_zero]at this;have hi:=dh;simp only [bZ,Instr.storeAt,Instr.sureAddr,Sem.run_bind,Sem.run_pure,Result.andThen];cases hq:Tryz.prog.info? 27 with
 | none=>rw [hq]at hi;cases hi
 | some k =>
   have hs:vs.size=k.size:=by rw [hq]at hi;simp at hi;omega
   simp [storeVar,sizeOf,typeInfo,hq,Value.cells,hs,this]
def OwnP (w:World) (g:Nat) (l:List Val) (i:Nat):Prop :=
 ∃ cur,w.heap[g]? = some (.cells cur 27 (0,0))/\cur.size=l.length * 5/\∃ raw:Nat->Value,∀ j v,j<i->l[j]? = some v->(∀ k x,(au v (raw j))[k]? = some x->cur[j * 5+k]? = some x)/\SlT w (fun b=>g<b) (raw j) v.l
theorem OwnP.start (w:World) (l:List Val):OwnP (w.alloc (.cells (madeCells zV (l.length * 5)) 27)) w.heap.size l 0 :=
 ⟨_,ai _ _,size_madeCells _ _,fun _=>undef,fun j v h=>by omega⟩
theorem OwnP.below {w w':World} {g:Nat} {l:List Val} {i:Nat} (h:OwnP w g l i) (hb:Bl w w'):OwnP w' g l i:=by
 obtain⟨cur,h1,h2,raw,h3⟩:=h;exact⟨cur,ae hb h1,h2,raw,fun j v hj hv=>⟨(h3 j v hj hv).1,(h3 j v hj hv).2.on hb⟩⟩
theorem OwnP.next {w:World} {g:Nat} {l:List Val} {i:Nat} {x:Val} {rx:Value} (h:OwnP w g l i) (hx:l[i]? = some x) (hs:SlT w (fun b=>g<b) rx x.l) :
 ∃ w',(bZ (R_ g (i * 5)) (.agg (au x rx))).run Tryz.prog w=.ok .skip w'/\OwnP w' g l (i+1)/\Keeps (fun b=>b=g) w w':=by
 obtain⟨cur,h1,h2,raw,h3⟩:=h;have hil:=ji hx;obtain⟨pa,c,rfl⟩:=hs.form;have hst:=qt (vs:=au x (.slice pa x.l.length c)) (i:=i * 5) h1 rfl (by omega) (by simp [au,go_sem]);have hother:∀ k,k≠g->(w.setRow g (cur.toList.take (i * 5) ++ (au x (.slice pa x.l.length c)).toList ++ cur.toList.drop (i * 5+5)).toArray).heap[k]? = w.heap[k]?:=fun k hk=>aj w g _ k hk
 have hL:∀ {s:Value} {m:List Val},SlT w (fun b=>g<b) s m->SlT (w.setRow g (cur.toList.take (i * 5) ++ (au x (.slice pa x.l.length c)).toList ++ cur.toList.drop (i * 5+5)).toArray) (fun b=>g<b) s m:=fun hs =>
  hs.of_blocks (Lists.of fun b hb=>hother b (by omega)) (fun _ h=>h)
 refine⟨_,hst,⟨_,ah h1,?_,fun j=>if j=i then .slice pa x.l.length c else raw j,fun j v hj hv=>?_⟩,⟨rfl,rfl,rfl,by simp [World.setRow],fun k _ hk=>hother k hk⟩⟩
 ·simp [au];omega
 ·by_cases e:j=i
  ·subst e;rw [hx]at hv
   cases hv
   simp only [if_true];refine⟨fun k y hk=>?_,hL hs⟩
   have hk5:k<5:=by
    have:=(Array.getElem?_eq_some_iff.1 hk).1
    simpa [au]using this
   rw [List.getElem?_toArray,List.append_assoc,List.getElem?_append_right (by simp;omega),List.getElem?_append_left (by simp [au];omega)];have:j * 5+k - (cur.toList.take (j * 5)).length=k:=by simp;omega
   rw [this]
   simpa using hk
  ·simp only [if_neg e];obtain⟨h4,h5⟩:=h3 j v (by omega) hv;refine⟨fun k y hk=>?_,hL h5⟩
   have hk5:k<5:=by
    have:=(Array.getElem?_eq_some_iff.1 hk).1
    simpa [au]using this
   rw [List.getElem?_toArray,List.append_assoc,List.getElem?_append_left (by simp;omega),List.getElem?_take,if_pos (by omega)]
   simpa using h4 k y hk
theorem OwnP.done {w:World} {g:Nat} {l:List Val} {B:Nat} (h:OwnP w g l l.length) (hB:B≤g):SlT w (fun b=>B≤b) (.slice (some ⟨g,0,none⟩) l.length l.length) l:=by
 obtain⟨cur,h1,h2,raw,h3⟩:=h;refine SlT.mk g _ cur _ raw aH hB h1 (fun i v hv=>?_) (fun i v hv=>((h3 i v (ji hv) hv).2.mono fun b hb=>by omega));obtain⟨h4,-⟩:=h3 i v (ji hv) hv;rw [Nat.mul_comm 5 i];exact⟨h4 0 _ rfl,h4 1 _ rfl,h4 2 _ rfl,h4 3 _ rfl,h4 4 _ rfl⟩
theorem lI:bX 23 27 22 bp:=fun _ _ _ _ _=>rfl
theorem lp:ff 27 28 27 bZ:=fun _ _ _ _ _=>rfl
def zI (w:World) (A:Array Value) (l:List Val) (i:Nat) (wr:World):Prop :=
 Bl w wr/\wr.heap[w.heap.size]? = some (.cells A 27 (0,0))/\wr.heap[w.heap.size+1]? = some (.cells zV 27 (0,0))/\OwnP wr (w.heap.size+2) l i
theorem lC:bX 32 27 1 bp:=fun _ _ _ _ _=>rfl
theorem ml:ff 27 2 32 bZ:=fun _ _ _ _ _=>rfl
theorem aI {w:World} {b:Nat} {c:Array Value} {e:TypeId} {fr:Nat × Nat} (hg:w.heap[b]? = some (.cells c e fr)) (hs:c.size=5):(bp (P_ b)).run Tryz.prog w=.ok (.value (.agg c)) w:=by
 have:=aY (w:=w) (b:=b) (o:=0) (cs:=c.toList) (fun j v hj=>by rw [Nat.zero_add,ag hg];simpa using hj) (by simpa using hs)
 simpa using this
theorem az {w:World} {b:Nat} {c c':Array Value} (hg:w.heap[b]? = some (.cells c 27 (0,0))) (hs:c.size=5) (hs':c'.size=5) (h1:c'.all (·.oneCell')=true) :
 (bZ (P_ b) (.agg c')).run Tryz.prog w=.ok .skip (w.setRow b c'):=by
 have:=bI (P:=Tryz.prog) hg (by rw [hs'];exact dh) (by rw [hs,hs']) h1;simp only [bZ,Sem.run_bind,this,Result.andThen,Sem.run_pure]
def yu (n:Nat):Prop:=∀ (v:Val) (raw:Value) (w:World) (F:Nat->Prop),bY n v->SlAt w F raw v.l->Calls Tryz.prog 228 #[.agg (au v raw)] w fun e w' =>
 ∃ raw',e=.returned (.agg (au v raw'))/\Bl w w'/\SlT w' (fun b=>w.heap.size≤b) raw' v.l/\(v.l = []->raw'=.slice none 0 0)
attribute [local go_sem ↓] lI lp lC ml in
theorem nJ (n:Nat) (ih:∀ m,n=m+1->yu m):yu n:=by
 intro v raw w F hd hS;obtain⟨pa,c,rfl⟩:=hS.form;obtain⟨kind,nn,s,l,r⟩:=v;have IH:Hid _:=ih;have HD:Hid (bY n ⟨kind,nn,s,l,r⟩):=hd;have HS:Hid (SlAt w F (.slice pa l.length c) l):=hS;clear ih hd hS;simp only [au]
 by_cases hl:l = []
 ·subst hl
  go_enter Tryz.func228,Tryz.ntmps228
  go_wp2_with fail
  go_returns
  exact⟨_,rfl,by go_grown,SlT.nil _ _ _ _,fun _=>rfl⟩
 ·have hlz:((l.length:Int)==0)=false:=by
   have:¬ (l.length:Int)=0:=fun e=>hl (List.length_eq_zero_iff.1 (by omega))
   simpa using this
  obtain⟨m,rfl⟩:∃ m,n=m+1:=by
   cases n with
   | zero=>exact absurd HD.out hl
   | succ m=>exact⟨m,rfl⟩
  have hl512:l.length≤512:=HD.out.1;have HN:Hid (¬ l = []):=hl;clear hl;have hmk:=AC ((w.alloc (.cells (V_ kind nn s (.slice pa l.length c) r) 27)).alloc (.cells zV 27)) (show l.length≤1024 by omega);simp only [zV]at hmk
  go_enter Tryz.func228,Tryz.ntmps228
  go_wp2_with fail
  have HR:Hid (zI w (V_ kind nn s (.slice pa l.length c) r) l 0 (((w.alloc (.cells (V_ kind nn s (.slice pa l.length c) r) 27)).alloc (.cells zV 27)).alloc (.cells (madeCells zV (l.length * 5)) 27))):=by
   refine⟨((br.alloc aH _).alloc (by simp) _).alloc (by simp;omega) _,aG _ _ (aL _ _ _),aG _ _ (aK _ _ _),?_⟩;have:=OwnP.start ((w.alloc (.cells (V_ kind nn s (.slice pa l.length c) r) 27)).alloc (.cells zV 27)) l
   simpa using this
  simp only [zV]at HR;revert HR;generalize ((w.alloc _).alloc _).alloc _=w3;intro HR;clear hmk
  go_loopw [19] (fun vi wr=>∃ i:Nat,vi=J i/\i≤l.length/\Hid (zI w (V_ kind nn s (.slice pa l.length c) r) l i wr)) (fun vi _=>l.length - (intOf vi).toNat)
  case atStart=>exact⟨0,rfl,by omega,HR⟩
  case round =>
   clear HR;obtain⟨i,rfl,hi,HR⟩:=hrel
   by_cases hil:i<l.length
   ·obtain⟨x,hx⟩:∃ x,l[i]? = some x:=⟨_,List.getElem?_eq_getElem hil⟩;obtain⟨b,o,c',raw,hpe,hrg,-,-,hSx⟩:=(HS.out.on HR.out.1).range hx
    cases hpe
    obtain⟨xk,xn,xs,xl,xr⟩:=x;obtain⟨pa2,c2,rfl⟩:=hSx.form;have hld0:=aY hrg rfl;have hld:(bp (R_ b (o+i * 5))).run Tryz.prog wr=.ok (.value (.agg (V_ xk xn xs (.slice pa2 xl.length c2) xr))) wr:=hld0;have hiz:(i:Int)<(l.length:Int):=by omega
    have HX:Hid (l[i]? = some ⟨xk,xn,xs,xl,xr⟩):=hx;have HSX:Hid (SlAt wr F (.slice pa2 xl.length c2) xl):=hSx;have hdx:=HD.out.2 ⟨xk,xn,xs,xl,xr⟩ (List.mem_of_getElem? hx);have HDX:Hid (bY m ⟨xk,xn,xs,xl,xr⟩):=hdx;clear hld0 hx hrg hSx hdx
    go_wp2_with fail
    refine(IH.out m rfl ⟨xk,xn,xs,xl,xr⟩ (.slice pa2 xl.length c2) _ F HDX.out (HSX.out.on (br.alloc aH _))).mono ?_;rintro e w5 ⟨raw',rfl,hb5,hs5,-⟩;obtain⟨h1,h2,h3,h4⟩:=HR.out;have hbb:Below wr.heap.size wr w5:=(br.alloc aH _).trans (hb5.mono (by simp))
    have hg:w.heap.size+2<wr.heap.size:=by
     obtain⟨cur,h5,-⟩:=h4;exact aw h5
    obtain⟨w6,hst0,hP6,hk6⟩:=(h4.below hbb).next HX.out (hs5.mono fun y hy=>by simp at hy;omega)
    have hst:(bZ (R_ (w.heap.size+1+1) (i * 5)) (.agg (au ⟨xk,xn,xs,xl,xr⟩ raw'))).run Tryz.prog w5=.ok .skip w6:=hst0;have hB5:=h1.trans (hbb.mono h1.size)
    have HR6:Hid (zI w (V_ kind nn s (.slice (some ⟨b,o,none⟩) l.length c) r) l (i+1) w6):=by
     refine⟨hB5.trans (hk6.below hB5.size (fun y hy=>by omega)),?_,?_,hP6⟩
     ·rw [hk6.block _ (by have:=hbb.size;omega) (by omega)];exact ae hbb h2
     ·rw [hk6.block _ (by have:=hbb.size;omega) (by omega)];exact ae hbb h3
    clear h1 h2 h3 h4 hbb hP6 hk6 hst0 hB5 hb5 hs5 HR HX HSX HDX hld
    go_wp2_with fail
    go_roundw
    case rel=>exact⟨i+1,by go_num,by omega,HR6⟩
    case measure =>
     simp [intOf];omega
   ·have hiz:¬ (i:Int)<(l.length:Int):=by omega
    obtain rfl:i=l.length:=by omega
    obtain⟨h1,h2,h3,h4⟩:=HR.out;have a3:wr.cell? ⟨w.heap.size,3,none⟩=some (.slice pa l.length c):=by rw [ag h2];rfl
    have f3:=av h2 3
    have h5:(wr.setCell ⟨w.heap.size,3,none⟩ (.slice (some ⟨w.heap.size+1+1,0,none⟩) l.length l.length)).heap[w.heap.size]? = some (.cells (V_ kind nn s (.slice (some ⟨w.heap.size+1+1,0,none⟩) l.length l.length) r) 27 (0,0)):=by
     rw [aA h2];rfl
    have h6:(wr.setCell ⟨w.heap.size,3,none⟩ (.slice (some ⟨w.heap.size+1+1,0,none⟩) l.length l.length)).heap[w.heap.size+1]? = some (.cells zV 27 (0,0)):=by
     rw [Below.heap_setCell wr ⟨w.heap.size,3,none⟩ _ _ (by simp)];exact h3
    have hld:=aI h5 rfl;have hst:=az (c':=#[U kind,J nn,.string s,.slice (some ⟨w.heap.size+1+1,0,none⟩) l.length l.length,J r]) h6 rfl rfl (by simp [go_sem])
    have HF:Hid (∀ w9,w9=(wr.setCell ⟨w.heap.size,3,none⟩ (.slice (some ⟨w.heap.size+1+1,0,none⟩) l.length l.length)).setRow (w.heap.size+1) (V_ kind nn s (.slice (some ⟨w.heap.size+1+1,0,none⟩) l.length l.length) r) ->
     w9.heap[w.heap.size+1]? = some (.cells (V_ kind nn s (.slice (some ⟨w.heap.size+1+1,0,none⟩) l.length l.length) r) 27 (0,0))/\Below w.heap.size w w9/\SlT w9 (fun b=>w.heap.size≤b) (.slice (some ⟨w.heap.size+1+1,0,none⟩) l.length l.length) l):=by
     intro w9 e;subst e
     have hk:Keeps (fun b=>b=w.heap.size\/b=w.heap.size+1) wr ((wr.setCell ⟨w.heap.size,3,none⟩ (.slice (some ⟨w.heap.size+1+1,0,none⟩) l.length l.length)).setRow (w.heap.size+1) (V_ kind nn s (.slice (some ⟨w.heap.size+1+1,0,none⟩) l.length l.length) r)):=by
      refine⟨rfl,rfl,rfl,by simp [World.setRow,World.setCell],fun k _ hk=>?_⟩;rw [aj _ _ _ _ (fun e=>hk (.inr e)),Below.heap_setCell wr ⟨w.heap.size,3,none⟩ _ _ (fun e=>hk (.inl e))]
     refine⟨ah h6,h1.trans (hk.below h1.size fun b hb=>by omega),?_⟩;refine(h4.done (B:=w.heap.size+2) aH).of_blocks (Lists.of fun b hb=>?_) (fun b hb=>by omega);have:w.heap.size+2≤b:=hb;rw [aj _ _ _ _ (by omega),Below.heap_setCell wr ⟨w.heap.size,3,none⟩ _ _ (by simp;omega)]
    clear h1 h2 h3 h4 h5 h6 HR
    go_wp2_with fail
    obtain⟨hg,hb,hs⟩:=HF.out _ rfl;revert hg hb hs;generalize World.setRow _ _ _=w9;intro hg hb hs;obtain⟨⟨c0,c1,c2,c3,c4⟩,-⟩:=ax hg;refine bodyPost_ret (v:=.agg (V_ kind nn s (.slice (some ⟨w.heap.size+1+1,0,none⟩) l.length l.length) r)) (by simp [results,Tryz.results228,go_sem,c0,c1,c2,c3,c4]) rfl ⟨_,rfl,hb,hs,fun e=>absurd e HN.out⟩
theorem wR (n:Nat):yu n:=by
 induction n with
 | zero=>exact nJ 0 (fun m h=>by cases h)
 | succ n ih=>exact nJ (n+1) (fun m h=>by cases h;exact ih)
theorem na:ff 27 2 9 bZ:=fun _ _ _ _ _=>rfl
def OwnQ (w:World) (v:Val) (raw':Value) (w':World):Prop:=Bl w w'/\SlT w' (fun b=>w.heap.size≤b) raw' v.l/\(v.l = []->raw'=.slice none 0 0)
attribute [local go_sem ↓] na in
theorem xK {w:World} {F:Nat->Prop} {v:Val} {raw:Value} (hS:SlAt w F raw v.l) (hm:ay v=true):Calls Tryz.prog 232 #[.agg (au v raw)] w fun e w' =>
 ∃ raw',e=.returned (.tuple #[.agg (au v raw'),J 0])/\OwnQ w v raw' w':=by
 obtain⟨pa,c,rfl⟩:=hS.form;have hM:=dF (w:=(w.alloc (.cells (au v (.slice pa v.l.length c)) 27)).alloc (.cells zV 27)) (hS.on ((br.alloc aH _).alloc (by simp) _));have hd:=bA hm;rw [hm]at hM;obtain⟨kind,n,s,l,r⟩:=v;have HS:Hid (SlAt w F (.slice pa l.length c) l):=hS;have HD:Hid (bY 16 ⟨kind,n,s,l,r⟩):=hd;have HM:Hid _:=hM;clear hS hm hM hd;simp only [au,zV]at HM ⊢
 go_enter Tryz.func232,Tryz.ntmps232
 go_wp2_with fail
 refine Calls.mono HM.out ?_;rintro e w1 ⟨rfl,hb1⟩;have hA:=ae hb1 (aL w _ _);have hZ:=ae hb1 (aK w _ _);obtain⟨⟨a0,a1,a2,a3,a4⟩,-⟩:=ax hA;have HZ:Hid (w1.heap[w.heap.size+1]? = some (.cells zV 27 (0,0))):=hZ;have HB:Hid (Bl w w1):=((br.alloc aH _).alloc (by simp) _).trans (hb1.mono (by simp;omega));clear hb1 hA hZ HM
 go_wp2_with fail
 refine(wR 16 ⟨kind,n,s,l,r⟩ (.slice pa l.length c) _ F HD.out (HS.out.on HB.out)).mono ?_;rintro e w2 ⟨raw',rfl,hb2,hs2,hn2⟩;obtain⟨pa2,c2,rfl⟩:=hs2.form;have hZ2:=ae hb2 HZ.out;have hst0:=az (c':=au ⟨kind,n,s,l,r⟩ (.slice pa2 l.length c2)) hZ2 rfl rfl (by simp [au,go_sem])
 have HF:Hid ((w2.setRow (w.heap.size+1) (au ⟨kind,n,s,l,r⟩ (.slice pa2 l.length c2))).heap[w.heap.size+1]? = some (.cells (au ⟨kind,n,s,l,r⟩ (.slice pa2 l.length c2)) 27 (0,0))/\OwnQ w ⟨kind,n,s,l,r⟩ (.slice pa2 l.length c2) (w2.setRow (w.heap.size+1) (au ⟨kind,n,s,l,r⟩ (.slice pa2 l.length c2)))):=by
  have hz:=aw HZ.out;refine⟨ah hZ2,Below.setRow (HB.out.trans (hb2.mono HB.out.size)) (Nat.le_succ _) _,?_,hn2⟩;exact hs2.of_blocks (Lists.of fun b hb=>aj _ _ _ _ (by omega)) (fun b hb=>by omega)
 have hst:=hst0;clear hb2 hs2 hn2 hZ2 hst0 HZ;revert hst HF;generalize w2.setRow _ _=w3;intro HF hst
 go_wp2_with fail
 obtain⟨hg,hq⟩:=HF.out;obtain⟨⟨d0,d1,d2,d3,d4⟩,-⟩:=ax hg;refine bodyPost_ret (v:=.tuple #[.agg (V_ kind n s (.slice pa2 l.length c2) r),J 0]) (by simp [results,Tryz.results232,go_sem,d0,d1,d2,d3,d4]) rfl ⟨_,rfl,hq⟩
theorem OwnQ.start {w w1:World} {v:Val} {raw:Value} {o1 o2:Obj} (h:OwnQ ((w.alloc o1).alloc o2) v raw w1):OwnQ w v raw w1:=by
 obtain⟨h1,h2,h3⟩:=h;exact⟨((br.alloc aH _).alloc (by simp) _).trans (h1.mono (by simp;omega)),h2.mono fun b hb=>by simp at hb;omega,h3⟩
theorem OwnQ.on {w w1 w2:World} {v:Val} {raw:Value} (h:OwnQ w v raw w1) (hb:Bl w1 w2):OwnQ w v raw w2:=⟨h.1.trans (hb.mono h.1.size),h.2.1.on hb,h.2.2⟩
theorem OwnQ.setRow {w w1:World} {v:Val} {raw:Value} (h:OwnQ w v raw w1) {b:Nat} (hb:w.heap.size≤b) (hF:SlT w1 (fun x=>w.heap.size≤x/\x≠b) raw v.l) (c:Array Value):OwnQ w v raw (w1.setRow b c) :=
 ⟨Below.setRow h.1 hb c,hF.of_blocks (Lists.of fun _ hx=>aj _ _ _ _ hx.2) (fun _ hx=>hx.1),h.2.2⟩
theorem ly:ff 27 2 10 bZ:=fun _ _ _ _ _=>rfl
attribute [local go_sem ↓] ly in
theorem uj {w:World} {F:Nat->Prop} {v:Val} {raw:Value} (hS:SlAt w F raw v.l) (hm:ay v=true):Calls Tryz.prog 170 #[.agg (au v raw)] w fun e w' =>
 ∃ raw',e=.returned (.agg (au v raw'))/\OwnQ w v raw' w':=by
 obtain⟨pa,c,rfl⟩:=hS.form;have hM:=xK (w:=(w.alloc (.cells (au v (.slice pa v.l.length c)) 27)).alloc (.cells zV 27)) (hS.on ((br.alloc aH _).alloc (by simp) _)) hm;obtain⟨kind,n,s,l,r⟩:=v;have HM:Hid _:=hM;clear hS hm hM;simp only [au,zV]at HM ⊢
 go_enter Tryz.func170,Tryz.ntmps170
 go_wp2_with fail
 refine Calls.mono HM.out ?_;rintro e w1 ⟨raw',rfl,hq⟩;have hF:SlT w1 (fun x=>w.heap.size≤x/\x≠w.heap.size+1) raw' l:=hq.2.1.mono fun b hb=>by simp at hb;omega
 obtain⟨pa2,c2,rfl⟩:=hF.form;have hZ:=ae hq.1 (aK w _ _);have HZ:Hid (w1.heap[w.heap.size+1]? = some (.cells zV 27 (0,0))):=hZ;have HQ:Hid (OwnQ w ⟨kind,n,s,l,r⟩ (.slice pa2 l.length c2) w1):=hq.start;have HFF:Hid (SlT w1 (fun x=>w.heap.size≤x/\x≠w.heap.size+1) (.slice pa2 l.length c2) l):=hF;have hz:=aw hZ;have hst:=az (c':=#[U kind,J n,.string s,.slice pa2 l.length c2,J r]) (aG w1 (.cells (V_ kind n s (.slice pa2 l.length c2) r) 27) hZ) rfl rfl (by simp [go_sem])
 have HF:Hid (((w1.alloc (.cells (V_ kind n s (.slice pa2 l.length c2) r) 27)).setRow (w.heap.size+1) (V_ kind n s (.slice pa2 l.length c2) r)).heap[w.heap.size+1]? = some (.cells (V_ kind n s (.slice pa2 l.length c2) r) 27 (0,0)) /\
  OwnQ w ⟨kind,n,s,l,r⟩ (.slice pa2 l.length c2) ((w1.alloc (.cells (V_ kind n s (.slice pa2 l.length c2) r) 27)).setRow (w.heap.size+1) (V_ kind n s (.slice pa2 l.length c2) r))) :=
  ⟨ah (aG w1 _ hZ),(HQ.out.on (br.alloc aH _)).setRow (Nat.le_succ _) (hF.on (br.alloc aH _)) _⟩
 clear hq hF hZ HM
 go_wp2_with fail
 obtain⟨hg,hq⟩:=HF.out;obtain⟨⟨d0,d1,d2,d3,d4⟩,-⟩:=ax hg;refine bodyPost_ret (v:=.agg (V_ kind n s (.slice pa2 l.length c2) r)) (by simp [results,Tryz.results170,go_sem,d0,d1,d2,d3,d4]) rfl ⟨_,rfl,hq⟩
end
end Go.Proofs.YthaliljaglldjaaGreat
namespace Go.Proofs.YthaliljaglldjaaGreat
set_option maxHeartbeats 16000000
set_option maxRecDepth 20000
open Go.Shelf
section
def Tryz.sortLay_ren:Go.Shelf.Ren:=⟨fun | 5=>206 | 8=>252 | 7=>251 | 19=>283 | 20=>284 | 10=>274 | 11=>275 | 12=>276 | 13=>277 | 14=>278 | 15=>279 | 16=>280 | 17=>281 | 18=>282 | 30=>294 | 31=>295 | 32=>296 | 33=>297 | 34=>298 | 35=>299 | 40=>303 | n=>n,fun | 23=>77 | 25=>25 | 3=>3 | 32=>295 | 22=>77 | 0=>0 | 44=>322 | 46=>273 | 4=>4 | 36=>314 | 35=>313 | 41=>319 | 5=>5 | 9=>9 | 53=>331 | 57=>127 | 63=>339 | 64=>216 | n=>n,fun | n=>n⟩
theorem Tryz.sortLay:Go.Proofs.SlLaysM.n5 Tryz.prog Tryz.sortLay_ren:={
 mixed:=by kernel_rfl
 f5:=⟨Tryz.f206.name,by decide,Tryz.func206.trans (congrArg some (by kernel_rfl))⟩
 f7:=⟨Tryz.f251.name,by decide,Tryz.func251.trans (congrArg some (by kernel_rfl))⟩
 f8:=Tryz.func252.trans (congrArg some (by kernel_rfl))
 f10:=⟨Tryz.f274.name,by decide,Tryz.func274.trans (congrArg some (by kernel_rfl))⟩
 f11:=⟨Tryz.f275.name,by decide,Tryz.func275.trans (congrArg some (by kernel_rfl))⟩
 f12:=⟨Tryz.f276.name,by decide,Tryz.func276.trans (congrArg some (by kernel_rfl))⟩
 f13:=⟨Tryz.f277.name,by decide,Tryz.func277.trans (congrArg some (by kernel_rfl))⟩
 f14:=⟨Tryz.f278.name,by decide,Tryz.func278.trans (congrArg some (by kernel_rfl))⟩
 f15:=⟨Tryz.f279.name,by decide,Tryz.func279.trans (congrArg some (by kernel_rfl))⟩
 f16:=⟨Tryz.f280.name,by decide,Tryz.func280.trans (congrArg some (by kernel_rfl))⟩
 f17:=⟨Tryz.f281.name,by decide,Tryz.func281.trans (congrArg some (by kernel_rfl))⟩
 f18:=⟨Tryz.f282.name,by decide,Tryz.func282.trans (congrArg some (by kernel_rfl))⟩
 f19:=Tryz.func283.trans (congrArg some (by kernel_rfl))
 f20:=Tryz.func284.trans (congrArg some (by kernel_rfl))
 f30:=⟨Tryz.f294.name,by decide,Tryz.func294.trans (congrArg some (by kernel_rfl))⟩
 f31:=Tryz.func295.trans (congrArg some (by kernel_rfl))
 f32:=Tryz.func296.trans (congrArg some (by kernel_rfl))
 f33:=⟨Tryz.f297.name,by decide,Tryz.func297.trans (congrArg some (by kernel_rfl))⟩
 f34:=⟨Tryz.f298.name,by decide,Tryz.func298.trans (congrArg some (by kernel_rfl))⟩
 f35:=⟨Tryz.f299.name,by decide,Tryz.func299.trans (congrArg some (by kernel_rfl))⟩
 f40:=⟨Tryz.f303.name,by decide,Tryz.func303.trans (congrArg some (by kernel_rfl))⟩
 t0:=Tryz.underlying0
 a0:=Tryz.isAgg0
 z0:=Tryz.sizeOf0
 v0:=Tryz.zeroValue0
 t3:=Tryz.underlying3
 a3:=Tryz.isAgg3
 z3:=Tryz.sizeOf3
 v3:=Tryz.zeroValue3
 t4:=Tryz.underlying4
 a4:=Tryz.isAgg4
 z4:=Tryz.sizeOf4
 v4:=Tryz.zeroValue4
 t5:=Tryz.underlying5
 a5:=Tryz.isAgg5
 z5:=Tryz.sizeOf5
 v5:=Tryz.zeroValue5
 t9:=Tryz.underlying9
 a9:=Tryz.isAgg9
 z9:=Tryz.sizeOf9
 v9:=Tryz.zeroValue9
 t22:=Tryz.underlying77
 a22:=Tryz.isAgg77
 z22:=Tryz.sizeOf77
 v22:=Tryz.zeroValue77
 t23:=Tryz.underlying77
 a23:=Tryz.isAgg77
 z23:=Tryz.sizeOf77
 v23:=Tryz.zeroValue77
 t25:=Tryz.underlying25
 a25:=Tryz.isAgg25
 z25:=Tryz.sizeOf25
 v25:=Tryz.zeroValue25
 t32:=Tryz.underlying295
 a32:=Tryz.isAgg295
 z32:=Tryz.sizeOf295
 v32:=Tryz.zeroValue295
 t35:=Tryz.underlying313
 a35:=Tryz.isAgg313
 z35:=Tryz.sizeOf313
 v35:=Tryz.zeroValue313
 t36:=Tryz.underlying314
 a36:=Tryz.isAgg314
 z36:=Tryz.sizeOf314
 v36:=Tryz.zeroValue314
 t41:=Tryz.underlying319
 a41:=Tryz.isAgg319
 z41:=Tryz.sizeOf319
 v41:=Tryz.zeroValue319
 t44:=Tryz.underlying322
 a44:=Tryz.isAgg322
 z44:=Tryz.sizeOf322
 v44:=Tryz.zeroValue322
 t46:=Tryz.underlying273
 a46:=Tryz.isAgg273
 z46:=Tryz.sizeOf273
 v46:=Tryz.zeroValue273
 t53:=Tryz.underlying331
 a53:=Tryz.isAgg331
 z53:=Tryz.sizeOf331
 v53:=Tryz.zeroValue331
 t57:=Tryz.underlying127
 a57:=Tryz.isAgg127
 z57:=Tryz.sizeOf127
 v57:=Tryz.zeroValue127
 t63:=Tryz.underlying339
 a63:=Tryz.isAgg339
 z63:=Tryz.sizeOf339
 v63:=Tryz.zeroValue339
 t64:=Tryz.underlying216
 a64:=Tryz.isAgg216
 z64:=Tryz.sizeOf216
 v64:=Tryz.zeroValue216 }
end
end Go.Proofs.YthaliljaglldjaaGreat
namespace Go.Proofs.YthaliljaglldjaaGreat
set_option maxHeartbeats 16000000
set_option maxRecDepth 20000
open Go.RowKit Go.ChangeMaps Go.MapKept
open Go.Maps (Keyed)
section
def Rg (w:World) (b r:Nat) (f:Value->Option Value) (L:Int->Bool) (cnt:Nat):Prop :=
 ∃ (D:DataW Value) (n:Nat) (left:Lit->Bool),w.ranges Tryz.prog 25 pN b r n D left cnt /\
   (∀ key kl,keyOf Tryz.prog 25 key=some kl->Maps.has D kl=(f key).isSome/\∀ v,f key=some v->∀ zd,D.atKey kl zd=.held v) /\
   ∀ x,(Lit.int .i64 x).wf=true->left (.int .i64 x)=L x
section
variable {w:World} {b r:Nat} {f:Value->Option Value} {L:Int->Bool} {cnt:Nat}
theorem Rg.of_blocks {w':World} (h:Rg w b r f L cnt) (hb:w'.heap[b]? = w.heap[b]?) (hr:w'.heap[r]? = w.heap[r]?):Rg w' b r f L cnt:=by
 obtain⟨D,n,left,⟨es,clock,since,seen,c0,h1,h2,h3,h4,h5,h6⟩,r'⟩:=h;exact⟨D,n,left,⟨es,clock,since,seen,c0,hb.trans h1,h2,h3,h4,hr.trans h5,h6⟩,r'⟩
theorem Rg.lt (h:Rg w b r f L cnt):r<w.heap.size:=by
 obtain⟨D,n,left,h,_⟩:=h;exact h.lt
theorem Rg.ltb (h:Rg w b r f L cnt):b<w.heap.size:=by
 obtain⟨D,n,left,h,_⟩:=h;exact h.owns.lt
theorem Rg.left_eq (h:Rg w b r f L cnt):w.rangeLeft b r=cnt:=by
 obtain⟨D,n,left,h,_⟩:=h;exact h.left_eq
end
section
variable {w:World} {ops:Array Oper} {rest:List Oper} {o:Oper} {a:Act} {Q:Exit->Act->World->Prop}
theorem qF (hg:o.guard=none) (m:Operand) (t e:TypeId) (hop:o.op=Op.range t m) (ht:Tryz.prog.underlying t=some (.map 25 e)) (b n:Nat) (f:Value->Option Value)
 (hm:a.eval m=.map (some b)) (h:HasMap Tryz.prog 25 w b f n)
 (hK:∀ w' L cnt,Rg w' b w.heap.size f L cnt->(∀ x,(Lit.int .i64 x).wf=true->L x=(f (J x)).isSome)->Bl w w'->wpList Tryz.prog ops Q rest (a.put o.dst (P_ w.heap.size)) w') :
 wpList Tryz.prog ops Q (o :: rest) a w:=by
 obtain⟨D,h1,h2,h3⟩:=h;refine wpList_range_own w hg m t hop 25 e eu ht pN b n D hm h1 fun w' hrg hgr hsz=>?_;refine hK w' (fun x=>(f (J x)).isSome) (Maps.size D) ⟨D,n,Maps.has D,hrg,h3,fun x hx=>(h3 _ _ (iJ hx)).1⟩ (fun x _=>rfl) ?_;exact⟨hgr.os,hgr.tape,hgr.output,hgr.size,fun k hk=>hgr.block k hk (by simp)⟩
theorem sA (hg:o.guard=none) (it:Operand) (hop:o.op=Op.next it false) (b r:Nat) (f:Value->Option Value) (L:Int->Bool) (cnt:Nat)
 (hit:a.eval it=.pointer (some ⟨r,0,none⟩)) (h:Rg w b r f L cnt)
 (hDone:(∀ x,(Lit.int .i64 x).wf=true->L x=false)->wpList Tryz.prog ops Q rest (a.put o.dst (.tuple #[.bool false])) w)
 (hMore:∀ (x:Int) (v:Value) (w':World) (cnt':Nat),(Lit.int .i64 x).wf=true->L x=true->f (.int .i64 x)=some v->Rg w' b r f (fun z=>L z && !decide (z=x)) cnt'->cnt'<cnt ->
  Keeps (fun y=>y=r) w w'->w'.heap.size=w.heap.size->(Instr.entry (.pointer (some ⟨r,0,none⟩))).run Tryz.prog w'=.ok (.tuple #[.int .i64 x,v]) w'->wpList Tryz.prog ops Q rest (a.put o.dst (.tuple #[.bool true,.int .i64 x,v])) w') :
 wpList Tryz.prog ops Q (o :: rest) a w:=by
 obtain⟨D,n,left,h1,h2,h3⟩:=h
 refine wpList_next_ranges w hg it hop 25 eu pN (Value.int .i64) (fun v:Value=>v) (fun key kl hk=>by obtain⟨x,rfl,_⟩:=Maps.keyOf_int_inv Tryz.underlying25 hk;exact⟨x,rfl⟩) (fun v y _=>⟨v,rfl⟩) b r n D left cnt hit h1
  (fun _ hl=>hDone fun x hx=>(h3 x hx).symm.trans (hl _)) ?_
 intro x v kl y w' cnt' hkey hl hv hat hrg hlt hgr hsz hen;obtain⟨x',ex,rfl,hx⟩:=Maps.keyOf_int_inv Tryz.underlying25 hkey
 cases ex
 obtain⟨g1,g2⟩:=h2 _ _ hkey;have ey:=(As hv).1
 have hf:f (.int .i64 x)=some v:=by
  cases hfx:f (.int .i64 x)with
  | none =>
    rw [hfx]at g1;have h5:=Maps.atKey_of_not_has (D:=D) (k:=.int .i64 x) (by simpa using g1) .nil;have h6:=hat .nil;rw [h5,ey]at h6
    cases h6
  | some u =>
    have h6:=g2 u hfx .nil;rw [hat .nil,ey]at h6
    cases h6
    rfl
 refine hMore x v w' cnt' hx ((h3 x hx).symm.trans hl) hf ⟨D,n,_,hrg,h2,fun z hz=>?_⟩ hlt (Keeps.of_grown hgr (fun z hz=>by cases hz;rfl)) hsz hen;show (left (.int .i64 z) && !(Lit.int .i64 z).sameKey (.int .i64 x))=_;rw [h3 z hz];simp [Lit.sameKey]
end
theorem mT {M:WM} {bl:Int->Nat} {x:Int} {v:Value} (h:fB M bl (J x)=some v):∃ t,M.at x=some t/\v=P_ (bl x):=by
 simp only [fB]at h;rw [Option.map_eq_some_iff]at h;obtain⟨t,h1,h2⟩:=h;exact⟨t,h1,h2.symm⟩
end
end Go.Proofs.YthaliljaglldjaaGreat
namespace Go.Proofs.YthaliljaglldjaaGreat
set_option maxHeartbeats 16000000
set_option maxRecDepth 20000
open Go.RowKit
section
theorem cZ {P:Program} {C:World->Prop} {id:Nat} {Q:Exit->Act->World->Prop} {a:Act} {w:World} {l:List Oper} (hm:P.follows .mixedOrders=true) (hB:Region.lexB .any l.toArray=true) (hC:C w.drew)
 (h:wpQuiet P l.toArray C (fun a'=>∀ w',C w'->Q .normal a' w') l a):(Code.region id l.toArray true).wp P Q a w :=
 wp_region_quiet (C:=C) hm hB hC (by simpa using h)
theorem below_drew {w:World}:Bl w w.drew:=⟨rfl,rfl,rfl,aH,fun _ _=>rfl⟩
end
end Go.Proofs.YthaliljaglldjaaGreat
namespace Go.Proofs.YthaliljaglldjaaGreat
set_option maxHeartbeats 16000000
set_option maxRecDepth 20000
open Go.RowKit Go.ChangeMaps Go.MapKept
section
variable {w:World} {p:Nat} {M:WM} {F:Nat->Prop}
structure Cs (M:WM) (L:Int->Bool) (ss:List Int):Prop where
 nd:ss.Nodup
 mem:∀ x,x ∈ ss ↔ ((M.at x).isSome=true/\L x=false)
theorem Cs.start {M:WM} (hM:M.ok) {bl:Int->Nat} {L:Int->Bool} (h:∀ x,(Lit.int .i64 x).wf=true->L x=(fB M bl (J x)).isSome):Cs M L [] where
 nd:=List.nodup_nil
 mem:=fun x=>by
  constructor
  ·intro hx
   cases hx
  ·rintro ⟨h1,h2⟩;obtain⟨t,ht⟩:=Option.isSome_iff_exists.1 h1;rw [h x (hM.at_wf ht)]at h2;simp [fB,ht]at h2
theorem Cs.step {M:WM} {L:Int->Bool} {ss:List Int} (h:Cs M L ss) {x:Int} {t:Th} (hx:M.at x=some t) (hL:L x=true):Cs M (fun z=>L z && !decide (z=x)) (ss ++ [x]) where
 nd:=by
  rw [List.nodup_append];refine⟨h.nd,by simp,fun a ha b hb=>?_⟩;simp at hb;subst hb;intro e;subst e;rw [((h.mem a).1 ha).2]at hL
  cases hL
 mem:=fun y=>by
  rw [List.mem_append,h.mem y]
  by_cases e:y=x
  ·subst e;simp [hx]
  ·simp [e]
theorem Cs.done {M:WM} (hM:M.ok) {L:Int->Bool} {ss:List Int} (h:Cs M L ss) (hL:∀ x,(Lit.int .i64 x).wf=true->L x=false):(ss.mergeSort fun x y=>decide (x≤y))=M.things.map (·.1)/\ss.length=M.things.length:=by
 have hk:(M.things.map (·.1)).Pairwise (fun a b=>a<b):=by
  rw [List.pairwise_map];exact hM.keys
 have hnd:(M.things.map (·.1)).Nodup:=hk.imp (fun h=>by omega)
 have hp:ss.Perm (M.things.map (·.1)):=(List.perm_ext_iff_of_nodup h.nd hnd).2 fun x=>by
  rw [h.mem x,List.mem_map];constructor
  ·rintro ⟨h1,-⟩;obtain⟨t,ht⟩:=Option.isSome_iff_exists.1 h1;exact⟨(x,t),cK ht,rfl⟩
  ·rintro ⟨y,hy,rfl⟩;have:=hM.at_of_mem hy;exact⟨by rw [this];rfl,hL _ (hM.at_wf this)⟩
 have tr:∀ a b c:Int,decide (a≤b)=true->decide (b≤c)=true->decide (a≤c)=true:=fun a b c h1 h2=>by simp at *;omega
 have tot:∀ a b:Int,(decide (a≤b) || decide (b≤a))=true:=fun a b=>by simp;omega
 refine⟨?_,by rw [hp.length_eq,List.length_map]⟩;exact List.Perm.eq_of_pairwise (le:=fun a b=>decide (a≤b)=true) (fun a b _ _ h1 h2=>by simp at h1 h2;omega) (List.pairwise_mergeSort tr tot ss) (hk.imp (fun h=>by simp;omega)) ((List.mergeSort_perm ss _).trans hp)
theorem kJ:∀ (l m:List Int),l.Nodup->(∀ x ∈ l,x ∈ m)->l.length≤m.length
 | [],_,_,_=>Nat.zero_le _
 | x :: l,m,h,hm=>by
   obtain⟨h1,h2⟩:=List.nodup_cons.1 h;have hx:=hm x (by simp);have:=kJ l (m.erase x) h2 (fun y hy=>(List.mem_erase_of_ne (fun e:y=x=>h1 (e ▸ hy))).2 (hm y (by simp [hy])));rw [List.length_erase_of_mem hx]at this;have:=List.length_pos_of_mem hx;simp only [List.length_cons];omega
theorem Cs.len {M:WM} {L:Int->Bool} {ss:List Int} (h:Cs M L ss):ss.length≤M.things.length:=by
 have:=kJ ss (M.things.map (·.1)) h.nd (fun x hx=>by
  obtain⟨t,ht⟩:=Option.isSome_iff_exists.1 ((h.mem x).1 hx).1
  exact List.mem_map.2 ⟨(x,t),cK ht,rfl⟩)
 simpa using this
theorem WM.ok.len_le {M:WM} (hM:M.ok):(M.things.length:Int)≤M.last:=by
 have key:∀ (l:List (Int × Th)) (b:Int),l.Pairwise (fun x y=>x.1<y.1)->(∀ x ∈ l,b<x.1/\x.1≤M.last)->b≤M.last->(l.length:Int)+b≤M.last:=by
  intro l
  induction l with
  | nil=>intro b _ _ h;simpa using h
  | cons x l ih =>
    intro b hp hx hb;obtain⟨h1,h2⟩:=List.pairwise_cons.1 hp;have hx0:=hx x (by simp);have:=ih x.1 h2 (fun y hy=>⟨h1 y hy,(hx y (by simp [hy])).2⟩) hx0.2;simp only [List.length_cons];omega
 have:=key M.things 0 hM.keys (fun x hx=>hM.range x hx) hM.last.1;omega
def ov (w:World) (M:WM) (e:Ending) (w':World):Prop :=
 ∃ g cap,e=.returned (.slice (some ⟨g,0,none⟩) M.things.length cap)/\w'.ownsRow w.heap.size 25 1 (.slice (some ⟨g,0,none⟩) M.things.length cap) M.things.length ((M.things.map (·.1)).map (Value.int .i64))/\Bl w w'
theorem yt (hW:IsW w p M F):Calls Tryz.prog 112 #[P_ p] w (ov w M):=by
 obtain⟨pa,pc,cg,cc,mg,mc,tb,fb,fn,bl,hV⟩:=hW;have HV:Hid _:=hV;have hlast:=hV.ok.len_le;have hl2:=hV.ok.last.2;have hn:(M.things.length:Int)≤1099511627776:=by omega
 have c2:=hV.c2;have hlen:=hV.things.len Tryz.underlying137;obtain⟨i0,hi,hz0,hz1,hz2⟩:=info_parts mq;obtain⟨w1,hmk,hrow,hgr⟩:=run_make_own (P:=Tryz.prog) (w:=w) w.heap.size 77 25 i0 (J 0) 1 Tryz.underlying77 hi hz0 hz1 .i64 .i64 M.things.length (by rw [hz2];omega) (by unfold maxLen;omega) aH;have hb1:Bl w w1:=⟨hgr.os,hgr.tape,hgr.output,hgr.size,fun k hk=>hgr.block k hk (by simp)⟩;have HN:Hid ((M.things.length:Int)≤1099511627776):=hn;have HR:Hid (w1.ownsRow w.heap.size 25 1 (.slice (some ⟨w.heap.size,0,none⟩) 0 M.things.length) 0 []):=hrow;have HB1:Hid (Bl w w1):=hb1;have c21:=(hV.below hb1).c2;have HT1:Hid _:=(hV.below hb1).things;clear hV hlast hl2 hn hrow hgr hb1 hi hz0 hz1 hz2
 go_enter Tryz.func112,Tryz.ntmps112
 go_wp2_with (first | (at_range;refine qF rfl _ 137 146 rfl Tryz.underlying137 tb _ (fB M bl) rfl HT1.out ?_;intro w3 L cnt hrg hL hb3))
 have HG3:Hid (Rg w3 tb w1.heap.size (fB M bl) L cnt):=hrg;have HC3:Hid (Cs M L []):=Cs.start HV.out.ok hL;have HB3:Hid (Bl w w3):=HB1.out.trans (hb3.mono HB1.out.size);have HR3:Hid (w3.ownsRow w.heap.size 25 1 (.slice (some ⟨w.heap.size,0,none⟩) 0 M.things.length) 0 []):=World.ownsRow.kept (row:=none) HR.out ⟨hb3.os,hb3.tape,hb3.output,hb3.size,fun k hk _=>hb3.block k hk⟩ (Or.inr (by simp [Value.ownBlock]));have hr0:w.heap.size≤w1.heap.size:=HB1.out.size
 have Hr0:=(show Hid (w.heap.size<w1.heap.size)from by
  rcases HR.out.2 with ⟨h,-⟩ | ⟨g,cap,cur,h1,h2,h3,-⟩
  ·cases h
  ·cases h1
   exact aw h3)
 clear hrg hL hb3 c21 HT1 HR hmk hlen c2 hr0;generalize w1.heap.size=r0 at *;simp only [Go.Act.put,List.setIfInBounds_toArray,List.set_cons_succ,List.set_cons_zero]
 go_loopw [3] (fun v wr=>∃ L cnt ss,Hid (Rg wr tb r0 (fB M bl) L cnt)/\Hid (Cs M L ss)/\Hid (Bl w wr)/\Hid (∃ g cap,v=.slice (some ⟨g,0,none⟩) ss.length cap)/\Hid (wr.ownsRow w.heap.size 25 1 v ss.length (ss.map (Value.int .i64)))) (fun _ wr=>wr.rangeLeft tb r0)
 case atStart=>exact⟨L,cnt,[],HG3,HC3,HB3,⟨_,_,rfl⟩,HR3⟩
 case round =>
  clear HG3 HC3 HB3 HR3;obtain⟨L,cnt,ss,HG,HC,HB,HS,HR⟩:=hrel;obtain⟨g,cap,rfl⟩:=HS.out
  go_wp2_with (first | (at_next;refine sA rfl _ rfl tb r0 (fB M bl) L cnt rfl HG.out ?_ ?_))
  ·intro hdone;obtain⟨hsrt,hlen⟩:=HC.out.done HV.out.ok hdone
   rcases HR.out.2 with ⟨h,-⟩ | ⟨g',cap',cur,hv,hbase,hb,h1,h2,h3,h4⟩
   ·cases h
   cases hv
   have hsz:ss.length<4611686018427387904:=by have:=HN.out;omega
   have hH:=holds_of_blockI hb (by simpa using h4);have hs:=AnyM.slices_Sort_int Tryz.sortLay g 0 cap ss wr hH (aw hb) hsz
   have hs2:Calls Tryz.prog 206 #[.slice (some ⟨g,0,none⟩) ss.length cap] wr (fun e w'=>e=.returned (.tuple #[])/\Hid (ov w M (.returned (.slice (some ⟨g,0,none⟩) ss.length cap)) w')):=by
    refine Calls.mono hs ?_;rintro e w' ⟨rfl,n,os,rfl⟩;refine⟨rfl,g,cap,by rw [hlen],?_,?_⟩
    ·have:=ownsRow_sortedI (n:=n) (os:=os) (ts:=ss.mergeSort fun x y=>decide (x≤y)) (by simp) hbase hb h1 h2 h3;rw [<- hlen,← hsrt];exact this
    ·exact HB.out.grown (grownBy_sortedI _) HB.out.size (fun j hj=>by cases hj;exact hbase)
   have HS2:Hid _:=hs2;clear hsrt hlen hb h1 h2 h3 h4 hH hs hs2 hsz hbase HR HG
   go_wp2_with fail
   refine Calls.mono HS2.out ?_;rintro e w' ⟨rfl,HP⟩
   go_wp2_with fail
   go_ret
   exact HP.out
  ·intro x v w4 cnt' hx hLx hf hrg' hlt hk hsz hen;obtain⟨t,ht,rfl⟩:=mT hf;have HC4:Hid (Cs M (fun z=>L z && !decide (z=x)) (ss ++ [x])):=HC.out.step ht hLx;have hgr4:wr.grownBy w4 (some r0):=⟨hk.os,hk.tape,hk.output,hk.size,fun b hb hne=>hk.block b hb (fun e=>hne (by rw [e]))⟩
   have hgr0:g<wr.heap.size/\w.heap.size≤g/\g≠r0:=by
    obtain⟨D,n,left,hrr,-⟩:=HG.out;have h1:=row_ne_iter HR.out hrr;have h2:=HR.out.lt g rfl;exact⟨h2.2,h2.1,fun e=>h1 (by rw [e];rfl)⟩
   have HR4:Hid (w4.ownsRow w.heap.size 25 1 (.slice (some ⟨g,0,none⟩) ss.length cap) ss.length (ss.map (Value.int .i64))):=World.ownsRow.kept (row:=some r0) HR.out hgr4 (Or.inr (by simp [Value.ownBlock];exact hgr0.2.2));have HG4:Hid (Rg w4 tb r0 (fB M bl) (fun z=>L z && !decide (z=x)) cnt'):=hrg';have Hlt:Hid (cnt'<cnt):=hlt;have Hsz4:Hid (w4.heap.size=wr.heap.size):=hsz;have Hcnt:Hid (wr.rangeLeft tb r0=cnt):=HG.out.left_eq;have HB4:Hid (Bl w w4):=HB.out.grown hgr4 HB.out.size (fun j hj=>by cases hj;exact Nat.le_of_lt Hr0.out);have hbase:w.heap.size≤w4.heap.size:=HB4.out.size;have hown:=HR4.out
   have Hp:Hid ((ss.length:Int)≤1099511627777):=by
    have h1:=HC.out.len;have h2:=HN.out;show _≤_;omega
   have Hg0:Hid _:=hgr0;have HOwn:Hid (w4.ownsRow w.heap.size 25 1 (.slice (some ⟨g,0,none⟩) ss.length cap) ss.length (ss.map (Value.int .i64))):=hown;have Htb:Hid (tb<w.heap.size):=HV.out.lt _ HV.out.own.2.2.2.1;clear hLx hf hrg' hlt hk hsz ht hgr4 hgr0 HG HR HR4 HC
   go_wp2_with (first
    | (at_builtin;refine append_ref rfl _ _ rfl w.heap.size _ ss rfl HOwn.out x rfl Hp hbase ?_;intro v' w5 hown' hg5 hb5))
   have hg5':w4.grownBy w5 (some g):=hg5;have hsz4:wr.heap.size≤w4.heap.size:=by have:=HG4.out.lt;have:=Hsz4.out;omega
   have hRg5:Rg w5 tb r0 (fB M bl) (fun z=>L z && !decide (z=x)) cnt':=HG4.out.of_blocks (hg5'.block tb HG4.out.ltb (fun e=>by cases e;have:=Htb.out;have:=Hg0.out.2.1;omega)) (hg5'.block r0 HG4.out.lt (fun e=>by cases e;exact Hg0.out.2.2 rfl));have HRg5:Hid (Rg w5 tb r0 (fB M bl) (fun z=>L z && !decide (z=x)) cnt'):=hRg5;have HB5:Hid (Bl w w5):=HB4.out.trans hb5;have HO5:Hid (w5.ownsRow w.heap.size 25 1 v' (ss ++ [x]).length ((ss ++ [x]).map (Value.int .i64))):=hown'
   have HS5:Hid (∃ g cap,v'=.slice (some ⟨g,0,none⟩) (ss ++ [x]).length cap):=by
    obtain⟨g5,cap5,h5⟩:=ownsRow_succ (k:=ss.length) (by simpa using hown');exact⟨g5,cap5,by rw [h5];simp⟩
   refine⟨⟨_,cnt',ss ++ [x],HRg5,HC4,HB5,HS5,HO5⟩,?_⟩;rw [Hcnt.out,HRg5.out.left_eq];exact Hlt.out
end
end Go.Proofs.YthaliljaglldjaaGreat
