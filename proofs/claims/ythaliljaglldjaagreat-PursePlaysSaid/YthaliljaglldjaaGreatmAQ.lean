/- A part of the proof, several texts in one: Find, SetW, LayW, MakeG, Fits, FitsB. -/
import Derived.Test.YthaliljaglldjaaGreatmAP
import Derived.Test.YthaliljaglldjaaGreatmAF
import Derived.Deep.DeepCutAuto
import Derived.Deep.CutBlock
import Derived.Test.YthaliljaglldjaaGreatmAK
import Derived.Test.YthaliljaglldjaaGreatmAO
import Derived.Test.YthaliljaglldjaaGreatmAL
import Derived.Test.YthaliljaglldjaaGreatmAE
import Derived.StillTailTactics
import Derived.Test.YthaliljaglldjaaGreatmAB
import Derived.Test.YthaliljaglldjaaGreatmAC
import Derived.Deep.QuietTactic
import Derived.BigQuiet
/- purse.find of a light thing: a What, and whether its kind is the one that is asked for. -/
namespace Go.Proofs.YthaliljaglldjaaGreat
open Go.RowKit Go.ChangeMaps Go.MapKept
variable {w:World} {p:Nat} {M:WM} {F:Nat→Prop}
structure RG (g:Nat) (xs:Array Value) (w w':World):Prop where
 os:w'.os = w.os
 tape:w'.tape = w.tape
 output:w'.output = w.output
 size:w.heap.size ≤ w'.heap.size
 block:∀ b,b < w.heap.size→b ≠ g→w'.heap[b]? = w.heap[b]?
 at_:w'.heap[g]? = w.heap[g]?∨w'.heap[g]? = some (.cells xs 46 (0,0))
theorem RG.of_below {g:Nat} {xs:Array Value} {w w':World} (h:Below w.heap.size w w') (hg:g < w.heap.size):RG g xs w w':=⟨h.os,h.tape,h.output,h.size,fun b hb _=>h.block b hb,.inl (h.block g hg)⟩
theorem RG.trans {g:Nat} {xs:Array Value} {a b c:World} (h:RG g xs a b) (k:RG g xs b c):RG g xs a c :=
 ⟨k.os.trans h.os,k.tape.trans h.tape,k.output.trans h.output,Nat.le_trans h.size k.size,fun x hx hg=>(k.block x (Nat.lt_of_lt_of_le hx h.size) hg).trans (h.block x hx hg),by
  rcases k.at_ with e | e
  ·rcases h.at_ with e' | e'
   ·exact .inl (e.trans e')
   ·exact .inr (e.trans e')
  ·exact .inr e⟩
structure FC (w0:World) (g6 g8:Nat) (xs:Array Value) (w:World):Prop where
 r:RG g6 xs w0 w
 hg6:∃ c,w.heap[g6]? = some (.cells c 46 (0,0))∧c.size = 16
 hg8:w.heap[g8]? = some (.cells xs 46 (0,0))
 lt:g6 < w0.heap.size
def FPhi (g6 g8:Nat) (xs:Array Value) (k kd:Int) (i:Nat) (v:Value) (w:World):Prop :=
 match i with
 | 0=>v = .agg xs
 | 1=>∃ b b8 b9,v = .map (some b)∧RulesAt w b b8 b9∧b ≠ g6∧b8 ≠ g6∧b9 ≠ g6
 | 2=>v = .int .u8 k
 | 3=>∃ bb,v = ruleV bb∧w.cell? ⟨bb,0,none⟩ = some (.int .u8 k)∧bb ≠ g6
 | 4=>v = .pointer (some ⟨g8,0,none⟩)
 | 5=>v = .int .u8 kd
 | 6=>v = .int .i64 (if kd = k then 0 else 100)
 | 7=>w.heap[g6]? = some (.cells xs 46 (0,0))
 | 8=>v = .int .i64 (if kd = k then 0 else 100)
 | _=>True
theorem RG.cell {g b:Nat} {xs:Array Value} {w w':World} {v:Value} (h:RG g xs w w') (hb:b ≠ g) (hc:w.cell? ⟨b,0,none⟩ = some v):w'.cell? ⟨b,0,none⟩ = some v :=
 (World.cell?_of_block (a:=⟨b,0,none⟩) (h.block b (World.block_lt_of_cell? _ _ hc) hb)).trans hc
theorem FPhi.stab {g6 g8:Nat} {xs:Array Value} {k kd:Int}:∀ (i:Nat) (v:Value) (w w':World),RG g6 xs w w'→FPhi g6 g8 xs k kd i v w→FPhi g6 g8 xs k kd i v w':=by
 intro i v w w' hR h
 unfold FPhi at h ⊢
 split at h
 ·exact h
 ·obtain ⟨b,b8,b9,h1,⟨h2,h3,n,h4⟩,h5,h6,h7⟩:=h
  exact ⟨b,b8,b9,h1,⟨hR.cell h6 h2,hR.cell h7 h3,n,h4.of_block (hR.block _ h4.lt h5)⟩,h5,h6,h7⟩
 ·exact h
 ·obtain ⟨bb,h1,h2,h3⟩:=h
  exact ⟨bb,h1,hR.cell h3 h2,h3⟩
 ·exact h
 ·exact h
 ·exact h
 ·rcases hR.at_ with e | e
  ·rw [e,h]
  ·exact e
 ·exact h
 ·trivial
theorem FC.next {w0 w w':World} {g6 g8:Nat} {xs:Array Value} (hxs:xs.size = 16) (hne:g8 ≠ g6) (h:FC w0 g6 g8 xs w) (hR:RG g6 xs w w'):FC w0 g6 g8 xs w' where
 r:=h.r.trans hR
 hg6:=by
  rcases hR.at_ with e | e
  ·rw [e];exact h.hg6
  ·exact ⟨xs,e,hxs⟩
 hg8:=(hR.block _ (blk_lt h.hg8) hne).trans h.hg8
 lt:=h.lt
theorem step_val {P:Program} {Q:Exit→Act→World→Prop} {R:World→World→Prop} {Φ:Value→World→Prop} {o:Oper} {a:Act} {w:World} (v:Value) (hrun:(execOp a.eval o).run P w = .ok (.value v) w) (hR:R w w) (hφ:Φ (o.dst.elim undef fun _=>v) w) :
 o.wp P a w (fun a' w'=>∃ v,a' = a.put o.dst v∧R w w'∧Φ (o.dst.elim undef fun _=>v) w'∧(false = true→o.dst.isSome = true∧∃ b,blkOf v = some b∧w.heap.size ≤ b∧b < w'.heap.size)) Q:=by
 unfold Oper.wp
 rw [hrun]
 exact ⟨v,rfl,hR,hφ,fun h=>by cases h⟩
theorem RG.refl (g:Nat) (xs:Array Value) (w:World):RG g xs w w:=⟨rfl,rfl,rfl,Nat.le_refl _,fun _ _ _=>rfl,.inl rfl⟩
set_option maxHeartbeats 2000000 in
set_option maxRecDepth 20000 in
theorem find_lt (hW:IsW w p M F) {r k h vk vn n l tg bi s q:Int} {fu:Bool} (hr:(Lit.int .i64 r).wf = true) (ht:M.at r = some (lt k h vk vn n l tg bi s fu)) (hp:Plain vk vn) (hq:q = 8∨q = 9) :
 Calls Tryz.prog 191 #[.pointer (some ⟨p,0,none⟩),.int .i64 r,.int .u8 q] w fun e w'=>e = .returned (.tuple #[.agg #[.int .u8 k,.int .i64 h,.int .u8 vk,.int .i64 vn,.string ⟨#[]⟩,.slice none 0 0,.int .i64 0,.slice none 0 0,.int .i64 n,.int .i64 l,.int .i64 tg,.int .i64 bi,.int .u8 s,.bool fu,.slice none 0 0,.slice none 0 0],.int .i64 (if k = q then 0 else 100)])∧Below w.heap.size w w':=by
 have hWh:=fun w' (hb:Below w.heap.size w w')=>What_lt (hW.below hb) hr ht hp
 have HWh:=(show Hid _ from hWh)
 clear hWh hW ht
 obtain ⟨xs,hxs⟩:∃ xs:Array Value,xs = #[.int .u8 k,.int .i64 h,.int .u8 vk,.int .i64 vn,.string ⟨#[]⟩,.slice none 0 0,.int .i64 0,.slice none 0 0,.int .i64 n,.int .i64 l,.int .i64 tg,.int .i64 bi,.int .u8 s,.bool fu,.slice none 0 0,.slice none 0 0]:=⟨_,rfl⟩
 rw [← hxs] at HWh ⊢
 have Hsz:Hid (xs.size = 16):=by show xs.size = 16;rw [hxs];rfl
 have Hone:Hid (xs.all (·.oneCell') = true):=by show _ = true;rw [hxs];simp [go_sem]
 have H0:Hid (xs[0]? = some (.int .u8 k)):=by show _ = _;rw [hxs];rfl
 clear hxs
 go_enter Tryz.func191,Tryz.ntmps191
 go_wp2_with fail
 refine Calls.mono (HWh.out _ ((Below.refl _ _).alloc (Nat.le_refl _) _)) ?_
 rintro e w1 ⟨rfl,hb1⟩
 have hst:=storeWhat_blk (c':=xs) (blk_new w1 (.cells #[.int .u8 0,.int .i64 0,.int .u8 0,.int .i64 0,.string ⟨#[]⟩,.slice none 0 0,.int .i64 0,.slice none 0 0,.int .i64 0,.int .i64 0,.int .i64 0,.int .i64 0,.int .u8 0,.bool false,.slice none 0 0,.slice none 0 0] 46)) rfl Hsz.out Hone.out
 have H8:=(show Hid _ from heap_setRow_at (c':=xs) (blk_new w1 (.cells #[.int .u8 0,.int .i64 0,.int .u8 0,.int .i64 0,.string ⟨#[]⟩,.slice none 0 0,.int .i64 0,.slice none 0 0,.int .i64 0,.int .i64 0,.int .i64 0,.int .i64 0,.int .u8 0,.bool false,.slice none 0 0,.slice none 0 0] 46)))
 have hb6:Below w.heap.size w ((w1.alloc (.cells #[.int .u8 0,.int .i64 0,.int .u8 0,.int .i64 0,.string ⟨#[]⟩,.slice none 0 0,.int .i64 0,.slice none 0 0,.int .i64 0,.int .i64 0,.int .i64 0,.int .i64 0,.int .u8 0,.bool false,.slice none 0 0,.slice none 0 0] 46)).setRow w1.heap.size xs) :=
  Below.setRow ((((Below.refl _ _).alloc (Nat.le_refl _) _).trans (hb1.mono (by simp))).alloc (by have:=hb1.size;simp at this;omega) _) (by have:=hb1.size;simp at this;omega) _
 have H6:Hid (((w1.alloc (.cells #[.int .u8 0,.int .i64 0,.int .u8 0,.int .i64 0,.string ⟨#[]⟩,.slice none 0 0,.int .i64 0,.slice none 0 0,.int .i64 0,.int .i64 0,.int .i64 0,.int .i64 0,.int .u8 0,.bool false,.slice none 0 0,.slice none 0 0] 46)).setRow w1.heap.size xs).heap[w.heap.size]? = some (.cells #[.int .u8 0,.int .i64 0,.int .u8 0,.int .i64 0,.string ⟨#[]⟩,.slice none 0 0,.int .i64 0,.slice none 0 0,.int .i64 0,.int .i64 0,.int .i64 0,.int .i64 0,.int .u8 0,.bool false,.slice none 0 0,.slice none 0 0] 46 (0,0))):=by
  have h1:=below_blk hb1 (blk_new w (.cells #[.int .u8 0,.int .i64 0,.int .u8 0,.int .i64 0,.string ⟨#[]⟩,.slice none 0 0,.int .i64 0,.slice none 0 0,.int .i64 0,.int .i64 0,.int .i64 0,.int .i64 0,.int .u8 0,.bool false,.slice none 0 0,.slice none 0 0] 46))
  have h2:=blk_lt h1
  exact (heap_setRow_other _ _ _ _ (by omega)).trans (blk_old w1 _ h1)
 have HB6:=(show Hid _ from hb6)
 have hlt:w.heap.size < w1.heap.size:=by have:=hb1.size;simp at this;omega
 clear hb1 hb6
 go_upto_region 6 with fail
 clear hst
 revert H8 H6 HB6 hlt
 generalize (w1.alloc _).setRow _ _ = w6
 generalize w1.heap.size = g8
 generalize hg6:w.heap.size = g6
 intro H8 H6 HB6 hlt
 refine wp_region_grow (by kernel_rfl) (by kernel_rfl) (RG g6 xs) (FPhi g6 g8 xs q k) (fun _=>false) (FC w6.drew g6 g8 xs) (fun j v w w'=>FPhi.stab j v w w') (fun w w' h=>h.size) ?_ (fun w w' h hR=>h.next Hsz.out (by omega) hR) ?_ ?_
 ·exact ⟨RG.refl _ _ _,⟨_,H6.out,rfl⟩,H8.out,by have:=HB6.out.size;have:=blk_lt H6.out;exact this⟩
 ·intro i o a w7 ho hC hG
  have hi:i < 9:=(List.getElem?_eq_some_iff.1 ho).1
  have hg6lt:g6 < w7.heap.size:=by
   obtain ⟨c,hc,-⟩:=hC.hg6
   exact blk_lt hc
  match i,hi with
  | 0,_ =>
    cases ho
    have h8:a.tmps.getD 8 undef = .pointer (some ⟨g8,0,none⟩):=hG.fr 8 (by simp)
    refine step_val (.agg xs) ?_ (RG.refl _ _ _) rfl
    rw [execOp_ldW]
    show (ldW (a.tmps.getD 8 undef)).run _ _ = _
    rw [h8]
    exact loadWhat_blk hC.hg8 Hsz.out
  | 1,_ =>
    cases ho
    unfold Oper.wp
    simp [go_sem,callFunc,Tryz.func249]
    refine (rules_W w7).mono ?_
    rintro e w8 ⟨b,b8,b9,rfl,hru,hb,h1,h2,h3⟩
    exact ⟨_,rfl,RG.of_below hb hg6lt,⟨b,b8,b9,rfl,hru,by omega,by omega,by omega⟩⟩
  | 2,_ =>
    cases ho
    have h2:a.tmps.getD 2 undef = .int .u8 q:=hG.fr 2 (by simp)
    exact step_val (.int .u8 q) (by rw [← h2];rfl) (RG.refl _ _ _) rfl
  | 3,_ =>
    cases ho
    obtain ⟨b,b8,b9,h24,hru,n1,n2,n3⟩:=hG.dep ⟨1,.data⟩ (by simp) rfl _ rfl
    have h24:a.tmps.getD 24 undef = .map (some b):=h24
    have h25:a.tmps.getD 25 undef = .int .u8 q:=hG.dep ⟨2,.data⟩ (by simp) rfl _ rfl
    obtain ⟨l8,l9⟩:=hru.look
    rcases hq with rfl | rfl
    ·refine step_val (ruleV b8) ?_ (RG.refl _ _ _) ⟨b8,rfl,hru.1,n2⟩
     show ((Instr.lookup 290 (a.tmps.getD 24 undef) (a.tmps.getD 25 undef) false) >>= fun v=>pure (Next.value v):Sem Next).run Tryz.prog w7 = _
     rw [h24,h25]
     simp only [Sem.run_bind,l8,Result.andThen,Sem.run_pure]
    ·refine step_val (ruleV b9) ?_ (RG.refl _ _ _) ⟨b9,rfl,hru.2.1,n3⟩
     show ((Instr.lookup 290 (a.tmps.getD 24 undef) (a.tmps.getD 25 undef) false) >>= fun v=>pure (Next.value v):Sem Next).run Tryz.prog w7 = _
     rw [h24,h25]
     simp only [Sem.run_bind,l9,Result.andThen,Sem.run_pure]
  | 4,_ =>
    cases ho
    have h8:a.tmps.getD 8 undef = .pointer (some ⟨g8,0,none⟩):=hG.fr 8 (by simp)
    exact step_val (.pointer (some ⟨g8,0,none⟩)) (by simp [execOp,go_sem,Act.eval,h8]) (RG.refl _ _ _) rfl
  | 5,_ =>
    cases ho
    have h27:a.tmps.getD 27 undef = .pointer (some ⟨g8,0,none⟩):=hG.dep ⟨4,.data⟩ (by simp) rfl _ rfl
    have hc:w7.cell? ⟨g8,0,none⟩ = some (.int .u8 k):=by rw [cell_blk hC.hg8];exact H0.out
    exact step_val (.int .u8 k) (by simp [execOp,go_sem,Act.eval,h27,hc]) (RG.refl _ _ _) rfl
  | 6,_ =>
    cases ho
    obtain ⟨bb,h26,hcb,hbb⟩:=hG.dep ⟨3,.data⟩ (by simp) rfl _ rfl
    have h26:a.tmps.getD 26 undef = .func (.func 273) #[] #[.pointer (some ⟨bb,0,none⟩)]:=h26
    have h28:a.tmps.getD 28 undef = .int .u8 k:=hG.dep ⟨5,.data⟩ (by simp) rfl _ rfl
    unfold Oper.wp
    simp [go_sem,callFunc,Act.eval,Tryz.func273,h26,h28]
    refine (rulesB_W w7 k q bb hcb).mono ?_
    rintro e _ ⟨rfl,rfl⟩
    exact ⟨_,rfl,RG.refl _ _ _,rfl⟩
  | 7,_ =>
    cases ho
    have h6:a.tmps.getD 6 undef = .pointer (some ⟨g6,0,none⟩):=hG.fr 6 (by simp)
    have h23:a.tmps.getD 23 undef = .agg xs:=hG.dep ⟨0,.data⟩ (by simp) rfl _ rfl
    obtain ⟨c,hc,hcs⟩:=hC.hg6
    have hrun:=storeWhat_blk hc hcs Hsz.out Hone.out
    unfold Oper.wp
    rw [execOp_stW]
    show Oper.upon _ _ _ _ _ ((stW (a.tmps.getD 6 undef) (a.tmps.getD 23 undef)).run Tryz.prog w7)
    rw [h6,h23,hrun]
    exact ⟨undef,rfl,⟨rfl,rfl,rfl,by simp [World.setRow],fun b _ hb=>heap_setRow_other _ _ _ _ hb,.inr (heap_setRow_at hc)⟩,heap_setRow_at hc,fun h=>by cases h⟩
  | 8,_ =>
    cases ho
    have h29:a.tmps.getD 29 undef = .int .i64 (if k = q then 0 else 100):=hG.dep ⟨6,.data⟩ (by simp) rfl _ rfl
    exact step_val (.int .i64 (if k = q then 0 else 100)) (by rw [← h29];rfl) (RG.refl _ _ _) rfl
 ·intro a w7 hC hdf hsz hfr hphi hne
  have h6:a.tmps.getD 6 undef = .pointer (some ⟨g6,0,none⟩):=hfr 6 (by simp)
  have h7:a.tmps.getD 7 undef = .int .i64 (if k = q then 0 else 100):=hphi 8 _ rfl
  have hg:w7.heap[g6]? = some (.cells xs 46 (0,0)):=hphi 7 _ rfl
  refine ‹∀ (a:Act) (w:World),Code.wp Tryz.prog Code.ret _ a w→_› a w7 ?_
  have hres:=results_What2 (fn:=Tryz.f191) (q:=6) (x:=7) rfl a.tmps w7 g6 xs (0,0) h6 hg Hsz.out
  rw [h7] at hres
  refine wp_ret (bodyPost_ret hres hdf ⟨rfl,?_⟩)
  subst hg6
  exact ⟨hC.r.os.trans HB6.out.os,hC.r.tape.trans HB6.out.tape,hC.r.output.trans HB6.out.output,Nat.le_trans HB6.out.size hC.r.size,fun b hb=>(hC.r.block b (Nat.lt_of_lt_of_le hb HB6.out.size) (by omega)).trans (HB6.out.block b hb)⟩
end Go.Proofs.YthaliljaglldjaaGreat
/- A thing that is turned, a thing that goes: in memory. -/
namespace Go.Proofs.YthaliljaglldjaaGreat
open Go.RowKit Go.ChangeMaps Go.MapKept
variable {w:World} {p:Nat} {M:WM} {F:Nat→Prop} {pa:Option Addr} {pc cg cc mg mc tb fb fn:Nat} {bl:Int→Nat}
theorem thf_set (M:WM) (r:Int) (t:Th) (bl:Int→Nat) (key:Value):thf (M.set r t) bl key = thf M bl key:=by
 unfold thf
 split
 ·rw [WM.set_at]
  split
  ·cases M.at _ <;> rfl
  ·rfl
 ·rfl
theorem faf_set {r:Int} {u t:Th} (hM:M.ok) (h:SetOk M r u t) (key:Value):faf (M.set r t) key = faf M key:=by
 unfold faf
 split
 ·split
  ·rw [WM.set_find hM h]
  ·rfl
 ·rfl
theorem WV.turn (h:WV w p M F pa pc cg cc mg mc tb fb fn bl) {r:Int} {u t:Th} (hs:SetOk M r u t) {w':World} (_:w.heap.size ≤ w'.heap.size) (hB:w'.heap[bl r]? = some (.cells (thc t) 46 (0,0)))
 (hoth:∀ b,F b→b ≠ bl r→w'.heap[b]? = w.heap[b]?) {F':Nat→Prop} (hF:∀ b,F b→F' b) (hlt:∀ b,F' b→b < w'.heap.size) (hd:Deep w' F' t):WV w' p (M.set r t) F' pa pc cg cc mg mc tb fb fn bl:=by
 have hBr:=(h.blk r u hs.was).1
 have keep:∀ b o,F b→w.heap[b]? = some o→(∀ (cs:Array Value) (fr:Nat × Nat),o ≠ Obj.cells cs 46 fr)→w'.heap[b]? = w.heap[b]?:=fun b o hFb hb ho=>by
  refine hoth b hFb fun e=>?_
  subst e
  rw [hBr] at hb
  cases hb
  exact ho _ _ rfl
 obtain ⟨mcur,hm⟩:=h.mad.is
 obtain ⟨ccur,hc⟩:=h.cut.is
 obtain ⟨tes,tcl,ht⟩:=h.things.is
 obtain ⟨fes,fcl,hf⟩:=h.facets.is
 exact {
  hp:=(keep p _ h.own.1 h.hp (by simp)).trans h.hp
  pars:=fun j x hx=>by
   obtain ⟨b,o,h1,h2,⟨cs,fr,h3⟩,h4⟩:=h.pars j x hx
   have k:=keep b _ h2 h3 (by simp)
   exact ⟨b,o,h1,hF _ h2,⟨cs,fr,k.trans h3⟩,(World.cell?_of_block (a:=⟨b,o + j,none⟩) k).trans h4⟩
  cut:=h.cut.of_block (keep cg _ h.own.2.1 hc (by simp))
  mad:=h.mad.of_block (keep mg _ h.own.2.2.1 hm (by simp))
  things:=by
   rw [WM.set_len]
   exact (h.things.of_block (keep tb _ h.own.2.2.2.1 ht (by simp))).congr (fun key _ _=>thf_set M r t bl key)
  facets:=(h.facets.of_block (keep fb _ h.own.2.2.2.2 hf (by simp))).congr (fun key _ _=>faf_set h.ok hs key)
  fnle:=h.fnle
  blk:=fun q v hv=>by
   rcases WM.set_at_some hv with ⟨rfl,rfl,-⟩ | ⟨hne,hv⟩
   ·exact ⟨hB,hF _ (h.blk _ _ hs.was).2.1,hd⟩
   ·obtain ⟨h1,h2,h3⟩:=h.blk q v hv
    have hbl:bl q ≠ bl r:=fun e=>hne (h.inj q r v u hv hs.was e)
    refine ⟨(hoth _ h2 hbl).trans h1,hF _ h2,h3.of_blocks (fun b cs e fr hFb hb he=>keep b _ hFb hb fun cs' fr' x=>?_) hF⟩
    cases x
    simp [deepTy] at he
  inj:=fun q q' v v' hv hv' e=>by
   have key:∀ {q v},(M.set r t).at q = some v→∃ x,M.at q = some x:=fun {q v} hv=>by
    rcases WM.set_at_some hv with ⟨-,-,x⟩ | ⟨-,hv⟩
    ·exact x
    ·exact ⟨_,hv⟩
   obtain ⟨x,hx⟩:=key hv
   obtain ⟨y,hy⟩:=key hv'
   exact h.inj q q' x y hx hy e
  own:=⟨hF _ h.own.1,hF _ h.own.2.1,hF _ h.own.2.2.1,hF _ h.own.2.2.2.1,hF _ h.own.2.2.2.2⟩
  tf:=h.tf
  lt:=hlt
  ok:=WM.set_ok h.ok hs }
theorem thf_del (M:WM) (r:Int) (bl:Int→Nat):thf (M.del r) bl (.int .i64 r) = none∧∀ x,x ≠ .int .i64 r→thf (M.del r) bl x = thf M bl x:=by
 refine ⟨by simp [thf,WM.del_at],fun x hx=>?_⟩
 unfold thf
 split
 ·rename_i q
  have hne:q ≠ r:=fun e=>hx (by rw [e])
  rw [WM.del_at,if_neg hne]
 ·rfl
end Go.Proofs.YthaliljaglldjaaGreat
/- Lay of a light thing over a light thing: what it has is turned. -/
namespace Go.Proofs.YthaliljaglldjaaGreat
open Go.RowKit Go.ChangeMaps Go.MapKept
variable {w:World} {p:Nat} {M:WM} {F:Nat→Prop}
set_option maxHeartbeats 2000000 in
set_option maxRecDepth 20000 in
theorem Lay_lt (hW:IsW w p M F) {r k h vk vn n l tg bi s vk' vn' n' l':Int} {fu':Bool} (hr:(Lit.int .i64 r).wf = true) (ht:M.at r = some (lt k h vk vn n l tg bi s false)) (hp:Plain vk' vn')
 (hform:∀ w,IsW w p M F→Calls Tryz.prog 74 #[.pointer (some ⟨p,0,none⟩),.agg #[.int .u8 k,.int .i64 h,.int .u8 vk',.int .i64 vn',.string ⟨#[]⟩,.slice none 0 0,.int .i64 0,.slice none 0 0,.int .i64 n',.int .i64 l',.int .i64 tg,.int .i64 bi,.int .u8 s,.bool fu',.slice none 0 0,.slice none 0 0]] w fun e w'=>e = .returned (.bool true)∧Below w.heap.size w w') :
 Calls Tryz.prog 107 #[.pointer (some ⟨p,0,none⟩),.int .i64 r,.agg #[.int .u8 k,.int .i64 h,.int .u8 vk',.int .i64 vn',.string ⟨#[]⟩,.slice none 0 0,.int .i64 0,.slice none 0 0,.int .i64 n',.int .i64 l',.int .i64 tg,.int .i64 bi,.int .u8 s,.bool fu',.slice none 0 0,.slice none 0 0]] w fun e w'=>e = .returned (.int .i64 0)∧IsW w' p (M.set r (lt k h vk' vn' n' l' tg bi s fu')) F∧Keeps F w w':=by
 have hB0:Below w.heap.size w (w.alloc (.cells #[.int .u8 k,.int .i64 h,.int .u8 vk',.int .i64 vn',.string ⟨#[]⟩,.slice none 0 0,.int .i64 0,.slice none 0 0,.int .i64 n',.int .i64 l',.int .i64 tg,.int .i64 bi,.int .u8 s,.bool fu',.slice none 0 0,.slice none 0 0] 46)):=(Below.refl _ _).alloc (Nat.le_refl _) _
 have b0:=blk_new w (.cells #[.int .u8 k,.int .i64 h,.int .u8 vk',.int .i64 vn',.string ⟨#[]⟩,.slice none 0 0,.int .i64 0,.slice none 0 0,.int .i64 n',.int .i64 l',.int .i64 tg,.int .i64 bi,.int .u8 s,.bool fu',.slice none 0 0,.slice none 0 0] 46)
 obtain ⟨wa,hwa⟩:∃ wa,wa = w.alloc (.cells #[.int .u8 k,.int .i64 h,.int .u8 vk',.int .i64 vn',.string ⟨#[]⟩,.slice none 0 0,.int .i64 0,.slice none 0 0,.int .i64 n',.int .i64 l',.int .i64 tg,.int .i64 bi,.int .u8 s,.bool fu',.slice none 0 0,.slice none 0 0] 46):=⟨_,rfl⟩
 have HB0:Hid (Below w.heap.size w wa):=by rw [hwa];exact hB0
 have Hb0:Hid (wa.heap[w.heap.size]? = some (.cells #[.int .u8 k,.int .i64 h,.int .u8 vk',.int .i64 vn',.string ⟨#[]⟩,.slice none 0 0,.int .i64 0,.slice none 0 0,.int .i64 n',.int .i64 l',.int .i64 tg,.int .i64 bi,.int .u8 s,.bool fu',.slice none 0 0,.slice none 0 0] 46 (0,0))):=by rw [hwa];exact b0
 have Hwa:=(show Hid _ from hwa)
 have HW:Hid (IsW w p M F):=hW
 have Hf:=(show Hid _ from hform)
 have Ht:Hid (M.at r = some (lt k h vk vn n l tg bi s false)):=ht
 obtain ⟨pa,pc,cg,cc,mg,mc,tb,fb,fn,bl,hV⟩:=hW
 have HV:=(show Hid _ from hV)
 have ds:Hid (∀ w',Below wa.heap.size wa w'→w'.cell? ⟨w.heap.size,0,none⟩ = some (.int .u8 k)∧w'.cell? ⟨w.heap.size,1,none⟩ = some (.int .i64 h)∧w'.cell? ⟨w.heap.size,10,none⟩ = some (.int .i64 tg)∧w'.cell? ⟨w.heap.size,11,none⟩ = some (.int .i64 bi)∧w'.cell? ⟨w.heap.size,12,none⟩ = some (.int .u8 s) ∧
  w'.cell? ⟨bl r,0,none⟩ = some (.int .u8 k)∧w'.cell? ⟨bl r,1,none⟩ = some (.int .i64 h)∧w'.cell? ⟨bl r,10,none⟩ = some (.int .i64 tg)∧w'.cell? ⟨bl r,11,none⟩ = some (.int .i64 bi)∧w'.cell? ⟨bl r,12,none⟩ = some (.int .u8 s)∧w'.cell? ⟨bl r,13,none⟩ = some (.bool false) ∧
  (ldW (.pointer (some ⟨w.heap.size,0,none⟩))).run Tryz.prog w' = .ok (.value (.agg #[.int .u8 k,.int .i64 h,.int .u8 vk',.int .i64 vn',.string ⟨#[]⟩,.slice none 0 0,.int .i64 0,.slice none 0 0,.int .i64 n',.int .i64 l',.int .i64 tg,.int .i64 bi,.int .u8 s,.bool fu',.slice none 0 0,.slice none 0 0])) w'∧IsW w' p M F):=fun w' hb=>by
  have hbl:=(HV.out.below (HB0.out.trans (hb.mono HB0.out.size))).blk r _ Ht.out
  obtain ⟨q0,q1,-,-,q10,q11,q12,q13⟩:=thc_cell hbl.1
  have hg:=below_blk hb Hb0.out
  exact ⟨by rw [cell_blk hg];rfl,by rw [cell_blk hg];rfl,by rw [cell_blk hg];rfl,by rw [cell_blk hg];rfl,by rw [cell_blk hg];rfl,q0,q1,q10,q11,q12,q13,loadWhat_blk hg rfl,HW.out.below (HB0.out.trans (hb.mono HB0.out.size))⟩
 clear hV hB0 b0 hform ht hwa
 go_enter Tryz.func107,Tryz.ntmps107
 go_wp2_with fail
 rw [← Hwa.out]
 have hWa:=HW.out.below HB0.out
 refine (none_W hWa).mono ?_
 rintro e _ ⟨rfl,rfl⟩
 go_wp2_with fail
 refine (Is_W hWa hr).mono ?_
 rw [Ht.out]
 rintro e _ ⟨rfl,rfl⟩
 have c2:=(HV.out.below HB0.out).c2
 have hlk:=(HV.out.below HB0.out).look hr
 rw [Ht.out] at hlk
 simp only [Option.map_some] at hlk
 clear hWa
 go_wp2_with fail
 refine region_class (C:=fun w'=>Below wa.heap.size wa w') (by kernel_rfl) (by kernel_rfl) below_drew ?_
 repeat (first
  | go_big_quiet_step (fail)
  | quiet_step (fail)
  | (refine wpQuiet_step (fun K hK=>?_);go_simp;first
   | (refine hK _ ?_;clear hK K)
   | (apply Exists.intro
      refine ⟨fun w' hC=>?_,hK _ ?_⟩
      ·obtain ⟨q1,q2,q3,q4,q5,q6,q7,q8,q9,q10,q11,q12,q13⟩:=ds.out w' hC
       first
        | exact rfl
        | (go_simp;exact rfl)
        | (go_simp;exact ⟨rfl,rfl⟩)
        | exact (Hf.out w' q13).mono fun e w'' ⟨he,hb⟩=>⟨he,hC.trans (hb.mono hC.size)⟩
      clear hK K)))
 refine wpQuiet_nil ?_
 intro w5 hC5
 have HB5:=(show Hid (Below wa.heap.size wa w5) from hC5)
 have l5:=(ds.out w5 hC5).2.2.2.2.2.2.2.2.2.2.2.1
 clear hC5 c2 hlk
 go_wp2_with fail
 refine (names_W _ _ k h vk' vn' n' l' tg bi s fu' hp).mono ?_
 rintro e w6 ⟨rfl,hb6⟩
 have HB6:Hid (Below wa.heap.size wa w6):=HB5.out.trans (hb6.mono HB5.out.size)
 have l6:=(ds.out w6 HB6.out).2.2.2.2.2.2.2.2.2.2.2.1
 clear hb6 l5 HB5
 go_wp2_with fail
 refine (ownWhat_W _ k h vk' vn' n' l' tg bi s fu' hp).mono ?_
 rintro e w7 ⟨rfl,hb7⟩
 have HB7:Hid (Below wa.heap.size wa w7):=HB6.out.trans (hb7.mono HB6.out.size)
 have B7:=((HV.out.below (HB0.out.trans (HB7.out.mono HB0.out.size))).blk r _ Ht.out).1
 rw [thc_lt] at B7
 have hst:=storeWhat_blk (c':=#[.int .u8 k,.int .i64 h,.int .u8 vk',.int .i64 vn',.string ⟨#[]⟩,.slice none 0 0,.int .i64 0,.slice none 0 0,.int .i64 n',.int .i64 l',.int .i64 tg,.int .i64 bi,.int .u8 s,.bool fu',.slice none 0 0,.slice none 0 0]) B7 rfl rfl (by simp [go_sem])
 have G7:=(show Hid _ from heap_setRow_at (c':=#[.int .u8 k,.int .i64 h,.int .u8 vk',.int .i64 vn',.string ⟨#[]⟩,.slice none 0 0,.int .i64 0,.slice none 0 0,.int .i64 n',.int .i64 l',.int .i64 tg,.int .i64 bi,.int .u8 s,.bool fu',.slice none 0 0,.slice none 0 0]) B7)
 have HB8:=(show Hid (Below w.heap.size w w7) from HB0.out.trans (HB7.out.mono HB0.out.size))
 clear hb7 B7 l6
 go_wp2_with fail
 go_ret
 refine ⟨rfl,?_,?_⟩
 ·have hV7:=HV.out.below HB8.out
  refine ⟨pa,pc,cg,cc,mg,mc,tb,fb,fn,bl,hV7.turn (u:=lt k h vk vn n l tg bi s false) (t:=lt k h vk' vn' n' l' tg bi s fu') ⟨Ht.out,rfl,rfl,fun _=>rfl,(hV7.ok.wf _ _ Ht.out).tgt,rfl,rfl⟩ (by simp [World.setRow]) G7.out (fun b _ hb=>heap_setRow_other _ _ _ _ hb) (fun _ h=>h) (fun b hb=>by have:=hV7.lt b hb;simpa [World.setRow] using this) (deep_lt _ _ _ _ _ _ _ _ _ _ _ _)⟩
 ·have hF:=(HV.out.blk r _ Ht.out).2.1
  exact Below.keeps HB8.out ⟨rfl,rfl,rfl,by simp [World.setRow],fun b _ hb=>heap_setRow_other _ _ _ _ (fun e=>hb (e ▸ hF))⟩
end Go.Proofs.YthaliljaglldjaaGreat
/- Make, whatever the lists of the thing are: its callees' answers are asked for. -/
namespace Go.Proofs.YthaliljaglldjaaGreat
open Go.RowKit Go.ChangeMaps Go.MapKept
variable {w:World} {p:Nat} {M:WM} {F:Nat→Prop}
def asksByB (k:Int):Bool:=k == 15 || k == 16
set_option maxRecDepth 8000 in
theorem asksOf_W (k:Int) (w:World):Calls Tryz.prog 76 #[.int .u8 k] w fun e w'=>e = .returned (.bool (asksOfB k))∧w = w':=by
 have hwr:=wraps_W k w
 by_cases h6:k = 6
 ·subst h6
  go_enter Tryz.func76,Tryz.ntmps76
  go_wp2
  go_ret
  exact ⟨rfl,rfl⟩
 by_cases h7:k = 7
 ·subst h7
  go_enter Tryz.func76,Tryz.ntmps76
  go_wp2
  go_ret
  exact ⟨rfl,rfl⟩
 by_cases h9:k = 9
 ·subst h9
  go_enter Tryz.func76,Tryz.ntmps76
  go_wp2
  go_ret
  exact ⟨rfl,rfl⟩
 by_cases h11:k = 11
 ·subst h11
  go_enter Tryz.func76,Tryz.ntmps76
  go_wp2
  go_ret
  exact ⟨rfl,rfl⟩
 have e6:(k == 6) = false:=by simpa using h6
 have e7:(k == 7) = false:=by simpa using h7
 have e9:(k == 9) = false:=by simpa using h9
 have e11:(k == 11) = false:=by simpa using h11
 have hv:asksOfB k = wrapsB k:=by simp [asksOfB,e6,e7,e9,e11]
 rw [hv]
 clear hv h6 h7 h9 h11
 go_enter Tryz.func76,Tryz.ntmps76
 go_wp2_with fail
 refine hwr.mono ?_
 rintro e _ ⟨rfl,rfl⟩
 go_wp2_with fail
 go_ret
 exact ⟨rfl,rfl⟩
def gateM (M:WM) (t:Th):WM:=match (M.add t).at t.bi with
 | some u=>(M.add t).set t.bi { u with tgt:=M.last + 1 }
 | none=>M.add t
def makeM (M:WM) (t:Th):WM:=if t.kind = 15 then gateM M t else M.add t
def MadeG (w:World) (p:Nat) (M:WM) (F:Nat→Prop) (h:Int) (T:Th→Prop) (e:Ending) (w':World):Prop :=
 (M.made.getD h.toNat 0 < 512∧e = .returned (.tuple #[.int .i64 (M.last + 1),.int .i64 0])∧∃ t F',T t∧IsW w' p (makeM M t) F'∧Grew F w F' w') ∨
 (¬ M.made.getD h.toNat 0 < 512∧e = .returned (.tuple #[.int .i64 0,.int .i64 8])∧Below w.heap.size w w')
def newB (w w':World):Nat→Prop:=fun b=>w.heap.size ≤ b∧b < w'.heap.size
structure MakeIn (w:World) (p:Nat) (M:WM) (F:Nat→Prop) (k h n l tg bi s:Int) (fu:Bool) (c2 c3 c4 c5 c6 c7 c14 c15:Value) (T:Th→Prop):Prop where
 form:∀ w1,Below w.heap.size w w1→Calls Tryz.prog 74 #[.pointer (some ⟨p,0,none⟩),.agg #[.int .u8 k,.int .i64 h,c2,c3,c4,c5,c6,c7,.int .i64 n,.int .i64 l,.int .i64 tg,.int .i64 bi,.int .u8 s,.bool fu,c14,c15]] w1 fun e w'=>e = .returned (.bool true)∧Below w1.heap.size w1 w'
 names:∀ w1,Below w.heap.size w w1→Calls Tryz.prog 75 #[.pointer (some ⟨p,0,none⟩),.agg #[.int .u8 k,.int .i64 h,c2,c3,c4,c5,c6,c7,.int .i64 n,.int .i64 l,.int .i64 tg,.int .i64 bi,.int .u8 s,.bool fu,c14,c15]] w1 fun e w'=>e = .returned (.bool true)∧Below w1.heap.size w1 w'
 fits:∀ w1,Below w.heap.size w w1→Calls Tryz.prog 78 #[.pointer (some ⟨p,0,none⟩),.int .i64 0,.agg #[.int .u8 k,.int .i64 h,c2,c3,c4,c5,c6,c7,.int .i64 n,.int .i64 l,.int .i64 tg,.int .i64 bi,.int .u8 s,.bool fu,c14,c15]] w1 fun e w'=>e = .returned (.bool true)∧Below w1.heap.size w1 w'
 own:∀ w1,Below w.heap.size w w1→Calls Tryz.prog 80 #[.agg #[.int .u8 k,.int .i64 h,c2,c3,c4,c5,c6,c7,.int .i64 n,.int .i64 l,.int .i64 tg,.int .i64 bi,.int .u8 s,.bool fu,c14,c15]] w1 fun e w'=>∃ t,T t∧e = .returned (.agg (thc t))∧Below w1.heap.size w1 w'∧Deep w' (newB w1 w') t
 k14:(k == 14) = false
 k13:k = 13→tg = 0
 tgw:(Lit.int .i64 tg).wf = true
 biw:(Lit.int .i64 bi).wf = true
 home:0 ≤ h∧h < M.made.length
 hA:asksOfB k = true→(M.at tg).isSome = true
 hB:asksByB k = true→(M.at bi).isSome = true
 add:M.made.getD h.toNat 0 < 512→∀ t,T t→t.kind = k∧t.home = h∧t.bi = bi∧AddOk M t
theorem blk_drew {w:World} {b:Nat} {o:Obj} (h:w.heap[b]? = some o):w.drew.heap[b]? = some o:=h
set_option maxHeartbeats 2000000 in
set_option maxRecDepth 8000 in
theorem Make_G (hW:IsW w p M F) {k h n l tg bi s:Int} {fu:Bool} {c2 c3 c4 c5 c6 c7 c14 c15:Value} {T:Th→Prop} (I:MakeIn w p M F k h n l tg bi s fu c2 c3 c4 c5 c6 c7 c14 c15 T) :
 Calls Tryz.prog 14 #[.pointer (some ⟨p,0,none⟩),.agg #[.int .u8 k,.int .i64 h,c2,c3,c4,c5,c6,c7,.int .i64 n,.int .i64 l,.int .i64 tg,.int .i64 bi,.int .u8 s,.bool fu,c14,c15]] w (MadeG w p M F h T):=by
 have HI:=(show Hid _ from I)
 have HW:Hid (IsW w p M F):=hW
 have k14:=I.k14
 have hb0:Below w.heap.size w (w.alloc (.cells #[.int .u8 k,.int .i64 h,c2,c3,c4,c5,c6,c7,.int .i64 n,.int .i64 l,.int .i64 tg,.int .i64 bi,.int .u8 s,.bool fu,c14,c15] 46)):=(Below.refl _ _).alloc (Nat.le_refl _) _
 have HB0:=(show Hid _ from hb0)
 clear hW I hb0
 go_enter Tryz.func14,Tryz.ntmps14
 go_wp2_with fail
 refine (none_W (HW.out.below HB0.out)).mono ?_
 rintro e _ ⟨rfl,rfl⟩
 go_upto_region 3 with fail
 go_cut [27] (fun v wx=>v = .bool false∧Hid (Below w.heap.size w wx)∧Hid (wx.heap[w.heap.size]? = some (.cells #[.int .u8 k,.int .i64 h,c2,c3,c4,c5,c6,c7,.int .i64 n,.int .i64 l,.int .i64 tg,.int .i64 bi,.int .u8 s,.bool fu,c14,c15] 46 (0,0))))
 case first =>
  by_cases h13:k = 13
  ·have h0:=HI.out.k13 h13
   subst h13 h0
   go_wp2_with fail
   refine Calls.mono (HI.out.form _ HB0.out) ?_
   rintro e w1 ⟨rfl,hb1⟩
   have HB1:Hid (Below w.heap.size w w1):=HB0.out.trans (hb1.mono (by simp))
   have B1:=(show Hid _ from below_blk hb1 (blk_new _ _))
   clear hb1
   go_wp2_with fail
   go_meet
   exact ⟨rfl,HB1,B1⟩
  ·have k13:(k == 13) = false:=by simpa using h13
   clear h13
   go_wp2_with fail
   refine Calls.mono (HI.out.form _ HB0.out) ?_
   rintro e w1 ⟨rfl,hb1⟩
   have HB1:Hid (Below w.heap.size w w1):=HB0.out.trans (hb1.mono (by simp))
   have B1:=(show Hid _ from below_blk hb1 (blk_new _ _))
   clear hb1
   go_wp2_with fail
   go_meet
   exact ⟨rfl,HB1,B1⟩
 obtain ⟨rfl,HB1,B1⟩:=hcut
 generalize wc = w1 at *
 go_upto_region 5 with fail
 go_cut [55] (fun v wx=>v = .bool false∧Hid (Below w.heap.size w wx)∧Hid (wx.heap[w.heap.size]? = some (.cells #[.int .u8 k,.int .i64 h,c2,c3,c4,c5,c6,c7,.int .i64 n,.int .i64 l,.int .i64 tg,.int .i64 bi,.int .u8 s,.bool fu,c14,c15] 46 (0,0))))
 case first =>
  have l1:=loadWhat_blk B1.out rfl
  go_wp2_with fail
  refine Calls.mono (HI.out.names _ HB1.out) ?_
  rintro e w2 ⟨rfl,hb2⟩
  have HB2:Hid (Below w.heap.size w w2):=HB1.out.trans (hb2.mono HB1.out.size)
  have B2:=(show Hid _ from below_blk hb2 B1.out)
  clear hb2 l1
  have c0:w2.cell? ⟨w.heap.size,0,none⟩ = some (.int .u8 k):=by rw [cell_blk B2.out];rfl
  have c10:w2.cell? ⟨w.heap.size,10,none⟩ = some (.int .i64 tg):=by rw [cell_blk B2.out];rfl
  have c11:w2.cell? ⟨w.heap.size,11,none⟩ = some (.int .i64 bi):=by rw [cell_blk B2.out];rfl
  go_wp2_with fail
  refine (asksOf_W k _).mono ?_
  have hA:=HI.out.hA
  generalize asksOfB k = A at hA
  have HA:=(show Hid (A = true→(M.at tg).isSome = true) from hA)
  clear hA
  rintro e _ ⟨rfl,rfl⟩
  cases A
  ·go_wp2_with fail
   refine (asksBy_W k _).mono ?_
   have hB:=HI.out.hB
   unfold asksByB at hB
   generalize (k == 15 || k == 16) = B at hB
   have HB:=(show Hid (B = true→(M.at bi).isSome = true) from hB)
   clear hB
   rintro e _ ⟨rfl,rfl⟩
   cases B
   ·go_wp2_with fail
    go_meet
    exact ⟨rfl,HB2,B2⟩
   ·go_wp2_with fail
    refine (Is_W (HW.out.below HB2.out) HI.out.biw).mono ?_
    rw [HB.out (by simp)]
    rintro e _ ⟨rfl,rfl⟩
    go_wp2_with fail
    go_meet
    exact ⟨rfl,HB2,B2⟩
  ·go_wp2_with fail
   refine (Is_W (HW.out.below HB2.out) HI.out.tgw).mono ?_
   rw [HA.out (by simp)]
   rintro e _ ⟨rfl,rfl⟩
   go_wp2_with fail
   refine (asksBy_W k _).mono ?_
   have hB:=HI.out.hB
   unfold asksByB at hB
   generalize (k == 15 || k == 16) = B at hB
   have HB:=(show Hid (B = true→(M.at bi).isSome = true) from hB)
   clear hB
   rintro e _ ⟨rfl,rfl⟩
   cases B
   ·go_wp2_with fail
    go_meet
    exact ⟨rfl,HB2,B2⟩
   ·go_wp2_with fail
    refine (Is_W (HW.out.below HB2.out) HI.out.biw).mono ?_
    rw [HB.out (by simp)]
    rintro e _ ⟨rfl,rfl⟩
    go_wp2_with fail
    go_meet
    exact ⟨rfl,HB2,B2⟩
 obtain ⟨rfl,HB2,B2⟩:=hcut
 clear HB1 B1
 generalize wc = w2 at *
 have l2:=loadWhat_blk B2.out rfl
 go_wp2_with fail
 refine Calls.mono (HI.out.fits _ HB2.out) ?_
 rintro e w3 ⟨rfl,hb3⟩
 have HB3:Hid (Below w.heap.size w w3):=HB2.out.trans (hb3.mono HB2.out.size)
 have B3:=(show Hid _ from below_blk hb3 B2.out)
 clear hb3 l2 B2 HB2
 obtain ⟨q1,q2⟩:=HI.out.home
 obtain ⟨hn,hhn⟩:=Int.eq_ofNat_of_zero_le q1
 have hq2:(hn:Int) < M.made.length:=by omega
 have hW3:=HW.out.below HB3.out
 obtain ⟨pa,pc,cg,cc,mg,mc,tb,fb,fn,bl,hV⟩:=hW3
 have c5:=hV.c5
 have c1:w3.cell? ⟨w.heap.size,1,none⟩ = some (.int .i64 hn):=by rw [cell_blk B3.out,hhn];rfl
 have hc:w3.cell? ⟨mg,hn,none⟩ = some (.int .i64 (M.made.getD hn 0)):=hV.mad.cell (by rw [List.getElem?_map,List.getElem?_eq_getElem (by omega),List.getD_eq_getElem?_getD,List.getElem?_eq_getElem (by omega)];rfl)
 obtain ⟨v,hv⟩:∃ v,v = M.made.getD hn 0:=⟨_,rfl⟩
 have Hv:Hid (M.made.getD h.toNat 0 = v):=by show _ = _;rw [hv,hhn];rfl
 rw [← hv] at hc
 clear hv q1 q2 hV hhn
 by_cases hroom:v < 512
 ·have Q3:¬ (512 ≤ v):=by omega
  have l3:=loadWhat_blk (w:=w3.drew) (blk_drew B3.out) rfl
  have HR:Hid (M.made.getD h.toNat 0 < 512):=by show _ < _;rw [Hv.out];exact hroom
  clear hroom
  go_wp2_with fail
  go_region
  clear c5 c1 hc hq2
  go_wp2_with fail
  refine Calls.mono (HI.out.own _ HB3.out.drew) ?_
  rintro e w4 ⟨t,hT,rfl,hb4,hdeep⟩
  have HB4:Hid (Below w.heap.size w w4):=HB3.out.drew.trans (hb4.mono HB3.out.drew.size)
  have B4:=(show Hid _ from below_blk hb4 (blk_drew B3.out))
  obtain ⟨t1,t2,t3,hadd⟩:=HI.out.add HR.out t hT
  have hlay:=lay_W (HW.out.below HB4.out) hadd hdeep (fun b hb=>⟨hb.2,fun hF=>by
   have h1:=HW.out.lt b hF
   have h2:=HB3.out.size
   have h3:=hb.1
   have h4:w3.drew.heap.size = w3.heap.size:=rfl
   omega⟩)
  have HAdd:=(show Hid (AddOk M t) from hadd)
  have HS3:Hid (w.heap.size ≤ w3.drew.heap.size):=HB3.out.size
  have HT:Hid (T t∧t.kind = k∧t.home = h∧t.bi = bi):=⟨hT,t1,t2,t3⟩
  clear hb4 l3 HB3 B3 t1 t2 t3 hT hdeep hadd
  go_wp2_with fail
  refine hlay.mono ?_
  rintro e w5 ⟨rfl,hW5,hk5⟩
  clear hlay
  have B5:=(hk5.block _ (blk_lt B4.out) (fun h=>Nat.lt_irrefl _ (HW.out.lt _ h))).trans B4.out
  have a5:w5.cell? ⟨w.heap.size,0,none⟩ = some (.int .u8 k):=by rw [cell_blk B5];rfl
  have a11:w5.cell? ⟨w.heap.size,11,none⟩ = some (.int .i64 bi):=by rw [cell_blk B5];rfl
  have HF:Hid (∃ F',IsW w5 p (M.add t) F'∧Grew F w F' w5):=⟨_,hW5,Below.keeps HB4.out hk5,by
   have:=HB4.out.size
   rintro b ((h | h) | h)
   ·exact .inl h
   ·have h1:=h.1
    have h2:=HS3.out
    right
    omega
   ·right;omega⟩
  clear hW5 hk5 HB4 B4 B5
  by_cases h15:k = 15
  ·subst h15
   obtain ⟨F5,hW5,hg5⟩:=HF.out
   obtain ⟨u,hu,hu13⟩:=HAdd.out.gate HT.out.2.1
   have hu5:=WM.add_at_old HW.out.ok t hu
   rw [HT.out.2.2.2] at hu hu5
   have hset:SetOk (M.add t) bi u { u with tgt:=M.last + 1 }:={
    was:=hu5
    kind:=rfl
    home:=rfl
    tgt:=fun h=>absurd hu13 h
    tgtw:=(show (Lit.int .i64 (M.last + 1)).wf = true from WalkArith.wf_i64 (by have:=HAdd.out.last;have:=HW.out.ok.last;omega))
    bi:=rfl
    set:=rfl }
   have hmk:makeM M t = (M.add t).set bi { u with tgt:=M.last + 1 }:=by
    rw [makeM,if_pos HT.out.2.1,gateM,HT.out.2.2.2,hu5]
   obtain ⟨pa5,pc5,cg5,cc5,mg5,mc5,tb5,fb5,fn5,bl5,hV5⟩:=hW5
   obtain ⟨hblk,hbF,hbd⟩:=hV5.blk bi u hu5
   have c2':=hV5.c2
   have hlk:(Instr.lookup 137 (.map (some tb5)) (.int .i64 bi) false).run Tryz.prog w5.drew = .ok (.pointer (some ⟨bl5 bi,0,none⟩)) w5.drew:=by
    have:=(hV5.below (w':=w5.drew) ⟨rfl,rfl,rfl,Nat.le_refl _,fun _ _=>rfl⟩).look HI.out.biw
    rw [hu5] at this
    exact this
   have hfr:=frozen_blk hblk 10
   have hc10:w5.cell? ⟨bl5 bi,10,none⟩ = some (.int .i64 u.tgt):=by rw [cell_blk hblk];rfl
   have hdn:Deep (w5.setCell ⟨bl5 bi,10,none⟩ (.int .i64 (M.last + 1))).drew F5 { u with tgt:=M.last + 1 }:=by
    have D:Deep (w5.setCell ⟨bl5 bi,10,none⟩ (.int .i64 (M.last + 1))).drew F5 u:=hbd.of_blocks (fun b cs e fr hF hb he=>Below.heap_setCell w5 ⟨bl5 bi,10,none⟩ _ b (fun x=>by
     simp only at x
     rw [x,hblk] at hb
     cases hb
     simp [deepTy] at he)) fun _ h=>h
    exact ⟨D.v,D.vs,D.code,D.names⟩
   have HFin:Hid (∃ F',IsW (w5.setCell ⟨bl5 bi,10,none⟩ (.int .i64 (M.last + 1))).drew p (makeM M t) F'∧Grew F w F' (w5.setCell ⟨bl5 bi,10,none⟩ (.int .i64 (M.last + 1))).drew):=by
    refine ⟨F5,⟨pa5,pc5,cg5,cc5,mg5,mc5,tb5,fb5,fn5,bl5,?_⟩,?_⟩
    ·rw [hmk]
     have hB:(w5.setCell ⟨bl5 bi,10,none⟩ (.int .i64 (M.last + 1))).drew.heap[bl5 bi]? = some (.cells (thc { u with tgt:=M.last + 1 }) 46 (0,0)):=blk_setCell hblk 10 _
     exact hV5.turn (w':=(w5.setCell ⟨bl5 bi,10,none⟩ (.int .i64 (M.last + 1))).drew) hset (by simp [World.setCell]) hB (fun b hF hb=>Below.heap_setCell w5 ⟨bl5 bi,10,none⟩ _ b hb) (fun b h=>h) (fun b h=>by have:=hV5.lt b h;simpa [World.setCell] using this) hdn
    ·refine ⟨hg5.1.trans (Keeps.setCell (S:=fun b=>b = bl5 bi) w5 ⟨bl5 bi,10,none⟩ _ rfl).drew (fun _ _ h=>h) (fun b hb h=>?_),hg5.2⟩
     rcases hg5.2 _ hbF with h1 | h1
     ·rw [h];exact h1
     ·omega
   have hbi5:wrap64 (M.last + 1) = M.last + 1:=by
    have:=HAdd.out.last
    have:=HW.out.ok.last
    unfold wrap64
    omega
   clear hV5 hset hmk hblk hbF hbd hu hu5 hg5 hu13 hbi5 hdn
   go_wp2_with fail
   go_still_tail 10,(by kernel_rfl)
   change wpList _ _ _ _ _ w5.drew
   go_wp2_with fail
   go_ret2
   exact .inl ⟨by have:=HR.out;omega,rfl,t,by obtain ⟨F',f1,f2⟩:=HFin.out;exact ⟨F',HT.out.1,f1,f2⟩⟩
  ·have k15:(k == 15) = false:=by simpa using h15
   go_wp2_with fail
   go_ret2
   refine .inl ⟨by have:=HR.out;omega,rfl,t,?_⟩
   obtain ⟨F',f1,f2⟩:=HF.out
   exact ⟨F',HT.out.1,by rw [makeM,if_neg (by rw [HT.out.2.1];exact h15)];exact f1,f2⟩
 ·have Q3:512 ≤ v:=by omega
  have HR:Hid (¬ M.made.getD h.toNat 0 < 512):=by show ¬ _ < _;rw [Hv.out];exact hroom
  clear hroom
  go_wp2_with fail
  go_region
  clear c5 c1 hc hq2
  go_wp2_with fail
  go_ret2
  exact .inr ⟨by have:=HR.out;omega,rfl,HB3.out.drew⟩
end Go.Proofs.YthaliljaglldjaaGreat
/- fits at the kinds that ask for nothing. Printed by gen_fits.py. -/
namespace Go.Proofs.YthaliljaglldjaaGreat
open Go.RowKit Go.ChangeMaps Go.MapKept
variable {w:World} {p:Nat} {M:WM} {F:Nat→Prop}
set_option maxRecDepth 8000 in
theorem fits_1 (w:World) (q:Option Addr) (r h vk vn n l tg bi s:Int) (fu:Bool):Calls Tryz.prog 78 #[.pointer q,.int .i64 r,.agg #[.int .u8 1,.int .i64 h,.int .u8 vk,.int .i64 vn,.string ⟨#[]⟩,.slice none 0 0,.int .i64 0,.slice none 0 0,.int .i64 n,.int .i64 l,.int .i64 tg,.int .i64 bi,.int .u8 s,.bool fu,.slice none 0 0,.slice none 0 0]] w fun e w'=>e = .returned (.bool true)∧Below w.heap.size w w':=by
 go_enter Tryz.func78,Tryz.ntmps78
 go_wp2
 go_ret
 exact ⟨rfl,by go_grown⟩
set_option maxRecDepth 8000 in
theorem fits_2 (w:World) (q:Option Addr) (r h vk vn n l tg bi s:Int) (fu:Bool):Calls Tryz.prog 78 #[.pointer q,.int .i64 r,.agg #[.int .u8 2,.int .i64 h,.int .u8 vk,.int .i64 vn,.string ⟨#[]⟩,.slice none 0 0,.int .i64 0,.slice none 0 0,.int .i64 n,.int .i64 l,.int .i64 tg,.int .i64 bi,.int .u8 s,.bool fu,.slice none 0 0,.slice none 0 0]] w fun e w'=>e = .returned (.bool true)∧Below w.heap.size w w':=by
 go_enter Tryz.func78,Tryz.ntmps78
 go_wp2
 go_ret
 exact ⟨rfl,by go_grown⟩
set_option maxRecDepth 8000 in
theorem fits_3 (w:World) (q:Option Addr) (r h vk vn n l tg bi s:Int) (fu:Bool):Calls Tryz.prog 78 #[.pointer q,.int .i64 r,.agg #[.int .u8 3,.int .i64 h,.int .u8 vk,.int .i64 vn,.string ⟨#[]⟩,.slice none 0 0,.int .i64 0,.slice none 0 0,.int .i64 n,.int .i64 l,.int .i64 tg,.int .i64 bi,.int .u8 s,.bool fu,.slice none 0 0,.slice none 0 0]] w fun e w'=>e = .returned (.bool true)∧Below w.heap.size w w':=by
 go_enter Tryz.func78,Tryz.ntmps78
 go_wp2
 go_ret
 exact ⟨rfl,by go_grown⟩
set_option maxRecDepth 8000 in
theorem fits_4 (w:World) (q:Option Addr) (r h vk vn n l tg bi s:Int) (fu:Bool):Calls Tryz.prog 78 #[.pointer q,.int .i64 r,.agg #[.int .u8 4,.int .i64 h,.int .u8 vk,.int .i64 vn,.string ⟨#[]⟩,.slice none 0 0,.int .i64 0,.slice none 0 0,.int .i64 n,.int .i64 l,.int .i64 tg,.int .i64 bi,.int .u8 s,.bool fu,.slice none 0 0,.slice none 0 0]] w fun e w'=>e = .returned (.bool true)∧Below w.heap.size w w':=by
 go_enter Tryz.func78,Tryz.ntmps78
 go_wp2
 go_ret
 exact ⟨rfl,by go_grown⟩
set_option maxRecDepth 8000 in
theorem fits_5 (w:World) (q:Option Addr) (r h vk vn n l tg bi s:Int) (fu:Bool):Calls Tryz.prog 78 #[.pointer q,.int .i64 r,.agg #[.int .u8 5,.int .i64 h,.int .u8 vk,.int .i64 vn,.string ⟨#[]⟩,.slice none 0 0,.int .i64 0,.slice none 0 0,.int .i64 n,.int .i64 l,.int .i64 tg,.int .i64 bi,.int .u8 s,.bool fu,.slice none 0 0,.slice none 0 0]] w fun e w'=>e = .returned (.bool true)∧Below w.heap.size w w':=by
 go_enter Tryz.func78,Tryz.ntmps78
 go_wp2
 go_ret
 exact ⟨rfl,by go_grown⟩
set_option maxRecDepth 8000 in
theorem fits_8 (w:World) (q:Option Addr) (r h vk vn n l tg bi s:Int) (fu:Bool):Calls Tryz.prog 78 #[.pointer q,.int .i64 r,.agg #[.int .u8 8,.int .i64 h,.int .u8 vk,.int .i64 vn,.string ⟨#[]⟩,.slice none 0 0,.int .i64 0,.slice none 0 0,.int .i64 n,.int .i64 l,.int .i64 tg,.int .i64 bi,.int .u8 s,.bool fu,.slice none 0 0,.slice none 0 0]] w fun e w'=>e = .returned (.bool true)∧Below w.heap.size w w':=by
 go_enter Tryz.func78,Tryz.ntmps78
 go_wp2
 go_ret
 exact ⟨rfl,by go_grown⟩
set_option maxRecDepth 8000 in
theorem fits_10 (w:World) (q:Option Addr) (r h vk vn n l tg bi s:Int) (fu:Bool):Calls Tryz.prog 78 #[.pointer q,.int .i64 r,.agg #[.int .u8 10,.int .i64 h,.int .u8 vk,.int .i64 vn,.string ⟨#[]⟩,.slice none 0 0,.int .i64 0,.slice none 0 0,.int .i64 n,.int .i64 l,.int .i64 tg,.int .i64 bi,.int .u8 s,.bool fu,.slice none 0 0,.slice none 0 0]] w fun e w'=>e = .returned (.bool true)∧Below w.heap.size w w':=by
 go_enter Tryz.func78,Tryz.ntmps78
 go_wp2
 go_ret
 exact ⟨rfl,by go_grown⟩
set_option maxRecDepth 8000 in
theorem fits_12 (w:World) (q:Option Addr) (r h vk vn n l tg bi s:Int) (fu:Bool):Calls Tryz.prog 78 #[.pointer q,.int .i64 r,.agg #[.int .u8 12,.int .i64 h,.int .u8 vk,.int .i64 vn,.string ⟨#[]⟩,.slice none 0 0,.int .i64 0,.slice none 0 0,.int .i64 n,.int .i64 l,.int .i64 tg,.int .i64 bi,.int .u8 s,.bool fu,.slice none 0 0,.slice none 0 0]] w fun e w'=>e = .returned (.bool true)∧Below w.heap.size w w':=by
 go_enter Tryz.func78,Tryz.ntmps78
 go_wp2
 go_ret
 exact ⟨rfl,by go_grown⟩
end Go.Proofs.YthaliljaglldjaaGreat
/- fits at the kinds that ask for another thing: a switch, a purse, a tap, a gate. -/
namespace Go.Proofs.YthaliljaglldjaaGreat
open Go.RowKit Go.ChangeMaps Go.MapKept
variable {w:World} {p:Nat} {M:WM} {F:Nat→Prop}
theorem IsW.drewN (hW:IsW w p M F) (m:Nat):IsW (w.drewN m) p M F:=hW.below ⟨rfl,rfl,rfl,Nat.le_refl _,fun _ _=>rfl⟩
theorem WV.look_drewN {pa:Option Addr} {pc cg cc mg mc tb fb fn:Nat} {bl:Int→Nat} (h:WV w p M F pa pc cg cc mg mc tb fb fn bl) {q:Int} {t:Th} (hq:(Lit.int .i64 q).wf = true) (ht:M.at q = some t) (m:Nat) :
 (Instr.lookup 137 (.map (some tb)) (.int .i64 q) false).run Tryz.prog (w.drewN m) = .ok (.pointer (some ⟨bl q,0,none⟩)) (w.drewN m):=by
 have:=(h.below (w':=w.drewN m) ⟨rfl,rfl,rfl,Nat.le_refl _,fun _ _=>rfl⟩).look hq
 rw [ht] at this
 exact this
theorem there_yes (hW:IsW w p M F) {bw bx:Nat} {q k h:Int} {t:Th} (hq:(Lit.int .i64 q).wf = true) (ht:M.at q = some t) (hk:t.kind = k) (hh:t.home = h)
 (cw:w.cell? ⟨bw,0,none⟩ = some (.pointer (some ⟨p,0,none⟩))) (cx:w.cell? ⟨bx,1,none⟩ = some (.int .i64 h)) :
 Calls Tryz.prog 168 #[.int .i64 q,.int .u8 k,.pointer (some ⟨bw,0,none⟩),.pointer (some ⟨bx,0,none⟩)] w fun e w'=>e = .returned (.bool true)∧∃ n,w' = w.drewN n:=by
 subst hk hh
 have hK:∀ m,Calls Tryz.prog 50 #[.pointer (some ⟨p,0,none⟩),.int .i64 q] (w.drewN m) fun e w'=>e = .returned (.int .u8 t.kind)∧w' = w.drewN m:=fun m =>
  (Kind_W (hW.drewN m) hq).mono (by rintro e w' ⟨rfl,rfl⟩;exact ⟨by simp [WM.kindOf,ht],rfl⟩)
 have HK:=(show Hid _ from hK)
 obtain ⟨pa,pc,cg,cc,mg,mc,tb,fb,fn,bl,h⟩:=hW
 have c2:=h.c2
 have hlk:=h.look_drewN hq ht
 obtain ⟨-,k1,-,-,-,-,-,-⟩:=thc_cell (h.blk q t ht).1
 have e1:(t.kind == t.kind) = true:=by simp
 have e2:(t.home == t.home) = true:=by simp
 clear h ht hq hK
 go_enter Tryz.func168,Tryz.ntmps168
 go_wp2_with fail
 go_quiet ((go_at_call 50;exact Calls.quiet_of_same (HK.out _)))
 go_wp2_with fail
 go_ret
 exact ⟨rfl,_,rfl⟩
set_option maxRecDepth 8000 in
theorem fits_13 (w:World) (q:Option Addr) (r h:Int) (fu:Bool):Calls Tryz.prog 78 #[.pointer q,.int .i64 r,.agg #[.int .u8 13,.int .i64 h,.int .u8 0,.int .i64 0,.string ⟨#[]⟩,.slice none 0 0,.int .i64 0,.slice none 0 0,.int .i64 0,.int .i64 0,.int .i64 0,.int .i64 0,.int .u8 0,.bool fu,.slice none 0 0,.slice none 0 0]] w fun e w'=>e = .returned (.bool true)∧Below w.heap.size w w':=by
 go_enter Tryz.func78,Tryz.ntmps78
 go_wp2_with fail
 go_quiet (fail)
 go_wp2_with fail
 go_ret
 exact ⟨rfl,((((Below.refl _ _).alloc (Nat.le_refl _) _).alloc (by simp) _).trans ⟨rfl,rfl,rfl,Nat.le_refl _,fun _ _=>rfl⟩)⟩
set_option maxRecDepth 8000 in
theorem fits_9 (hW:IsW w p M F) {r h n tg:Int} {t:Th} (hq:(Lit.int .i64 tg).wf = true) (ht:M.at tg = some t) (hk:t.kind = 8) (hh:t.home = h) :
 Calls Tryz.prog 78 #[.pointer (some ⟨p,0,none⟩),.int .i64 r,.agg #[.int .u8 9,.int .i64 h,.int .u8 0,.int .i64 0,.string ⟨#[]⟩,.slice none 0 0,.int .i64 0,.slice none 0 0,.int .i64 n,.int .i64 0,.int .i64 tg,.int .i64 0,.int .u8 0,.bool false,.slice none 0 0,.slice none 0 0]] w fun e w'=>e = .returned (.bool true)∧Below w.heap.size w w':=by
 have HW:Hid (IsW w p M F):=hW
 have HT:Hid (M.at tg = some t∧t.kind = 8∧t.home = h):=⟨ht,hk,hh⟩
 clear hW ht hk hh
 go_enter Tryz.func78,Tryz.ntmps78
 go_wp2_with fail
 have hb:=((Below.refl w.heap.size w).alloc (Nat.le_refl _) (.cells #[.pointer (some ⟨p,0,none⟩)] 31)).alloc (by simp) (.cells #[.int .u8 9,.int .i64 h,.int .u8 0,.int .i64 0,.string ⟨#[]⟩,.slice none 0 0,.int .i64 0,.slice none 0 0,.int .i64 n,.int .i64 0,.int .i64 tg,.int .i64 0,.int .u8 0,.bool false,.slice none 0 0,.slice none 0 0] 46)
 have HB:=(show Hid _ from hb)
 refine (there_yes (HW.out.below hb) hq HT.out.1 HT.out.2.1 HT.out.2.2 (by rw [cell_blk (blk2_old _ _ _)];rfl) (by rw [cell_blk (blk2_new _ _ _)];rfl)).mono ?_
 clear hb
 rintro e w' ⟨rfl,m,rfl⟩
 go_wp2_with fail
 go_ret
 exact ⟨rfl,Below.trans HB.out ⟨rfl,rfl,rfl,Nat.le_refl _,fun _ _=>rfl⟩⟩
end Go.Proofs.YthaliljaglldjaaGreat
