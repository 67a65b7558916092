/- A part of the proof, several texts in one: QtJ, QtL, Purses, QtB, Sum. -/
import Derived.Test.YthaliljaglldjaaGreatmBE
import Derived.Test.YthaliljaglldjaaGreatmAF
import Derived.Test.YthaliljaglldjaaGreatmAS
import Derived.Test.YthaliljaglldjaaGreatmAT
import Derived.Sort.QuietIn
import Derived.Sort.CutIn
/- posternref10's Ask and Take where there is no such thing. -/
namespace Go.Proofs.YthaliljaglldjaaGreat
open Go.RowKit Go.ChangeMaps Go.MapKept
variable {w:World} {q:Nat} {M:WM} {G:Nat→Prop}
set_option maxHeartbeats 2000000 in
set_option maxRecDepth 8000 in
theorem askq_no (hR:IsR w q M G) (hN:ROk M) {r n:Int} (hno:findE M 8 r ≠ 0):Calls Tryz.prog 102 #[.pointer (some ⟨q,0,none⟩),.int .i64 r,.int .i64 n] w fun e w'=>e = .returned (.tuple #[.int .i64 0,.int .i64 (findE M 8 r)])∧Below w.heap.size w w':=by
 have HA:=(show Hid _ from kindq_W hR hN r)
 have hone:=hN.one r
 obtain ⟨E,hE⟩:∃ E,E = findE M 8 r:=⟨_,rfl⟩
 rw [← hE] at hno ⊢
 unfold findE at hE
 unfold kindE at HA
 clear hR hN
 generalize at7 M r = t at *
 generalize (M.at r).isSome = B at *
 have HE:=(show Hid _ from hE)
 have HNo:=(show Hid _ from hno)
 clear hE hno
 go_enter Tryz.func102,Tryz.ntmps102
 go_wp2_with fail
 refine Calls.mono HA.out ?_
 rintro e w2 ⟨rfl,hb2⟩
 obtain ⟨w3,hst,hb3,hg3,-⟩:=boxed_what' w2 (thc t) rfl hone
 have k0:w3.cell? ⟨w2.heap.size,0,none⟩ = some (.int .u8 t.kind):=by rw [cell_blk hg3];rfl
 have H3:Hid (Below w.heap.size w w3):=hb2.trans (hb3.mono hb2.size)
 clear hb2 hb3 hg3 HA
 cases B
 ·have HE2:Hid (E = 5):=HE.out
  clear HE
  go_wp2_with fail
  go_returns
  exact ⟨by rw [HE2.out];rfl,H3.out⟩
 ·by_cases h8:t.kind = 8
  ·exact absurd (HE.out.trans (by rw [if_pos rfl,if_pos h8])) HNo.out
  ·have hb:(t.kind != 8) = true:=by simpa using h8
   have HE2:Hid (E = 100):=HE.out.trans (by rw [if_pos rfl,if_neg h8])
   clear HE h8
   go_wp2_with fail
   go_returns
   exact ⟨by rw [HE2.out];rfl,H3.out⟩
set_option maxHeartbeats 2000000 in
set_option maxRecDepth 8000 in
theorem takeq_no (hR:IsR w q M G) (hN:ROk M) {r n:Int} (hno:purseE M r ≠ 0):Calls Tryz.prog 103 #[.pointer (some ⟨q,0,none⟩),.int .i64 r,.int .i64 n] w fun e w'=>e = .returned (.tuple #[.int .i64 0,.int .i64 (purseE M r)])∧Below w.heap.size w w':=by
 have HA:=(show Hid _ from purseq_W hR hN r)
 have hone:=hN.one r
 have hb:(purseE M r != 0) = true:=by simpa using hno
 clear hR hN hno
 generalize at7 M r = t at *
 generalize purseE M r = E at *
 go_enter Tryz.func103,Tryz.ntmps103
 go_wp2_with fail
 refine Calls.mono HA.out ?_
 rintro e w2 ⟨rfl,hb2⟩
 obtain ⟨w3,hst,hb3,hg3,-⟩:=boxed_what' w2 (thc t) rfl hone
 have H3:Hid (Below w.heap.size w w3):=hb2.trans (hb3.mono hb2.size)
 clear hb2 hb3 hg3 HA
 go_wp2_with fail
 go_returns
 exact ⟨rfl,H3.out⟩
set_option maxHeartbeats 4000000 in
set_option maxRecDepth 8000 in
theorem moveq_no (hR:IsR w q M G) (hN:ROk M) {a b:Int} (hno:moveE M a b ≠ 0):Calls Tryz.prog 104 #[.pointer (some ⟨q,0,none⟩),.int .i64 a,.int .i64 b] w fun e w'=>e = .returned (.int .i64 (moveE M a b))∧Below w.heap.size w w':=by
 have HKa:=(show Hid _ from kindq_W hR hN a)
 have HKb:Hid (∀ w',Below w.heap.size w w'→Calls Tryz.prog 193 #[.pointer (some ⟨q,0,none⟩),.int .i64 b] w' fun e w''=>e = .returned (.tuple #[.agg (thc (at7 M b)),.int .i64 (kindE M b)])∧Below w'.heap.size w' w''):=fun w' hb=>kindq_W (hR.below hb) hN b
 have HPa:Hid (∀ w',Below w.heap.size w w'→Calls Tryz.prog 194 #[.pointer (some ⟨q,0,none⟩),.int .i64 a] w' fun e w''=>e = .returned (.tuple #[.agg (thc (at7 M a)),.int .i64 (purseE M a)])∧Below w'.heap.size w' w''):=fun w' hb=>purseq_W (hR.below hb) hN a
 have HPb:Hid (∀ w',Below w.heap.size w w'→Calls Tryz.prog 194 #[.pointer (some ⟨q,0,none⟩),.int .i64 b] w' fun e w''=>e = .returned (.tuple #[.agg (thc (at7 M b)),.int .i64 (purseE M b)])∧Below w'.heap.size w' w''):=fun w' hb=>purseq_W (hR.below hb) hN b
 have hoa:=hN.one a
 have hob:=hN.one b
 obtain ⟨E,hE⟩:∃ E,E = moveE M a b:=⟨_,rfl⟩
 rw [← hE] at hno ⊢
 have HE:Hid ((kindE M a = 5∧E = 5)∨(kindE M a = 0∧kindE M b = 5∧E = 5)∨(kindE M a = 0∧kindE M b = 0∧purseE M a = 100∧E = 100)∨(kindE M a = 0∧kindE M b = 0∧purseE M a = 0∧purseE M b = 100∧E = 100)):=by
  show _∨_
  unfold moveE at hE
  unfold kindE purseE
  by_cases h1:(M.at a).isSome = true <;> by_cases h2:(M.at b).isSome = true <;> by_cases h3:(at7 M a).kind = 9 <;> by_cases h4:(at7 M b).kind = 9 <;> simp [h1,h2,h3,h4] at hE ⊢ <;> first | exact hE | exact absurd hE hno | omega
 clear hR hN hE hno
 generalize at7 M a = t at *
 generalize at7 M b = u at *
 generalize kindE M a = A at *
 generalize kindE M b = B at *
 generalize purseE M a = C at *
 generalize purseE M b = D at *
 go_enter Tryz.func104,Tryz.ntmps104
 go_wp2_with fail
 refine Calls.mono HKa.out ?_
 rintro e w2 ⟨rfl,hb2⟩
 obtain ⟨w3,hst,hb3,-,-⟩:=boxed_what' w2 (thc t) rfl hoa
 have H3:Hid (Below w.heap.size w w3):=hb2.trans (hb3.mono hb2.size)
 clear hb2 hb3 HKa
 rcases HE.out with ⟨rfl,e2⟩ | ⟨rfl,e2⟩ | ⟨rfl,e2⟩ | ⟨rfl,e2⟩
 ·have HE2:=(show Hid (E = 5) from e2)
  clear e2 HE HKb HPa HPb
  go_wp2_with fail
  go_ret
  exact ⟨by rw [HE2.out];rfl,H3.out⟩
 all_goals
  have HB:=(show Hid _ from HKb.out w3 H3.out)
  clear HKb HE
  go_wp2_with fail
  refine Calls.mono HB.out ?_
  rintro e w4 ⟨rfl,hb4⟩
  have H4:Hid (Below w.heap.size w w4):=H3.out.trans (hb4.mono H3.out.size)
  clear hb4 hst H3 HB
 ·obtain ⟨rfl,e3⟩:=e2
  have HE2:=(show Hid (E = 5) from e3)
  clear e3 HPa HPb
  go_wp2_with fail
  go_ret
  exact ⟨by rw [HE2.out];rfl,H4.out⟩
 all_goals
  obtain ⟨rfl,e3⟩:=e2
  have HP:=(show Hid _ from HPa.out w4 H4.out)
  clear HPa
  go_wp2_with fail
  refine Calls.mono HP.out ?_
  rintro e w5 ⟨rfl,hb5⟩
  obtain ⟨w6,hst,hb6,-,-⟩:=boxed_what' w5 (thc t) rfl hoa
  have H6:Hid (Below w.heap.size w w6):=H4.out.trans ((hb5.trans (hb6.mono hb5.size)).mono H4.out.size)
  clear hb5 hb6 H4 HP
 ·obtain ⟨rfl,e4⟩:=e3
  have HE2:=(show Hid (E = 100) from e4)
  clear e4 HPb
  go_wp2_with fail
  go_ret
  exact ⟨by rw [HE2.out];rfl,H6.out⟩
 obtain ⟨rfl,rfl,e5⟩:=e3
 have HP:=(show Hid _ from HPb.out w6 H6.out)
 have HE2:=(show Hid (E = 100) from e5)
 clear HPb e5
 go_wp2_with fail
 refine Calls.mono HP.out ?_
 rintro e w7 ⟨rfl,hb7⟩
 clear hst
 obtain ⟨w8,hst,hb8,-,-⟩:=boxed_what' w7 (thc u) rfl hob
 have H8:Hid (Below w.heap.size w w8):=H6.out.trans ((hb7.trans (hb8.mono hb7.size)).mono H6.out.size)
 clear hb7 hb8 H6 HP
 go_wp2_with fail
 go_ret
 exact ⟨by rw [HE2.out];rfl,H8.out⟩
end Go.Proofs.YthaliljaglldjaaGreat
/- posternref10's Move between two purses. -/
namespace Go.Proofs.YthaliljaglldjaaGreat
open Go.RowKit Go.ChangeMaps Go.MapKept
variable {w:World} {q:Nat} {M:WM} {G:Nat→Prop}
theorem QOk.set (h:QOk M) {r k hh n l tg n' l':Int} (ht:M.at r = some (lt k hh 0 0 n l tg 0 0 false)):QOk (M.set r (lt k hh 0 0 n' l' tg 0 0 false)) where
 ok:=WM.set_ok h.ok ⟨ht,rfl,rfl,fun _=>rfl,(h.ok.wf r _ ht).tgt,rfl,rfl⟩
 light:=h.light.set
 last:=h.last
def MoveR (w:World) (q:Nat) (M:WM) (G:Nat→Prop) (a h N mi b h' N' mi':Int) (e:Ending) (w':World):Prop :=
 ((a = b∨mi ≠ mi')∧e = .returned (.int .i64 100)∧Below w.heap.size w w') ∨
 (a ≠ b∧mi = mi'∧9007199254740992 - N < N'∧e = .returned (.int .i64 8)∧Below w.heap.size w w') ∨
 (a ≠ b∧mi = mi'∧N' ≤ 9007199254740992 - N∧e = .returned (.int .i64 0)∧∃ G',IsR w' q ((M.set a (purseT h (N + N') mi)).set b (purseT h' 0 mi')) G'∧Grew G w G' w')
set_option maxHeartbeats 4000000 in
set_option maxRecDepth 8000 in
theorem moveq_W (hR:IsR w q M G) (hQ:QOk M) {a h N mi b h' N' mi':Int} (ha:M.at a = some (purseT h N mi)) (hb:M.at b = some (purseT h' N' mi')) (hN:0 ≤ N∧N ≤ 9007199254740992) (hN':0 ≤ N'∧N' ≤ 9007199254740992) :
 Calls Tryz.prog 104 #[.pointer (some ⟨q,0,none⟩),.int .i64 a,.int .i64 b] w (MoveR w q M G a h N mi b h' N' mi'):=by
 have h7:at7 M a = purseT h N mi:=by unfold at7;rw [ha];rfl
 have h7':at7 M b = purseT h' N' mi':=by unfold at7;rw [hb];rfl
 have e1:kindE M a = 0:=by unfold kindE;rw [ha];rfl
 have e2:kindE M b = 0:=by unfold kindE;rw [hb];rfl
 have e3:purseE M a = 0:=by unfold purseE;rw [h7,ha];rfl
 have e4:purseE M b = 0:=by unfold purseE;rw [h7',hb];rfl
 have HKa:Hid (Calls Tryz.prog 193 #[.pointer (some ⟨q,0,none⟩),.int .i64 a] w fun e w''=>e = .returned (.tuple #[.agg (thc (purseT h N mi)),.int .i64 0])∧Below w.heap.size w w''):=by
  have:=kindq_W hR hQ.good.ok a
  rw [h7,e1] at this
  exact this
 have HKb:Hid (∀ w',Below w.heap.size w w'→Calls Tryz.prog 193 #[.pointer (some ⟨q,0,none⟩),.int .i64 b] w' fun e w''=>e = .returned (.tuple #[.agg (thc (purseT h' N' mi')),.int .i64 0])∧Below w'.heap.size w' w''):=fun w' hx=>by
  have:=kindq_W (hR.below hx) hQ.good.ok b
  rw [h7',e2] at this
  exact this
 have HPa:Hid (∀ w',Below w.heap.size w w'→Calls Tryz.prog 194 #[.pointer (some ⟨q,0,none⟩),.int .i64 a] w' fun e w''=>e = .returned (.tuple #[.agg (thc (purseT h N mi)),.int .i64 0])∧Below w'.heap.size w' w''):=fun w' hx=>by
  have:=purseq_W (hR.below hx) hQ.good.ok a
  rw [h7,e3] at this
  exact this
 have HPb:Hid (∀ w',Below w.heap.size w w'→Calls Tryz.prog 194 #[.pointer (some ⟨q,0,none⟩),.int .i64 b] w' fun e w''=>e = .returned (.tuple #[.agg (thc (purseT h' N' mi')),.int .i64 0])∧Below w'.heap.size w' w''):=fun w' hx=>by
  have:=purseq_W (hR.below hx) hQ.good.ok b
  rw [h7',e4] at this
  exact this
 have home:=hQ.ok.homes a _ ha (by show (9:Int) ≠ 14;decide)
 have home':=hQ.ok.homes b _ hb (by show (9:Int) ≠ 14;decide)
 have HL1:Hid (N' ≤ 9007199254740992 - N→∀ w' G',IsR w' q M G'→Calls Tryz.prog 108 #[.pointer (some ⟨q,0,none⟩),.int .i64 a,.agg (thc (purseT h (N + N') mi))] w' (LaidR w' q M G' a (purseT h (N + N') mi))):=fun hn w' G' hR' =>
  rLay_lt hR' hQ ha fun w2 hb2=>form7_9 w2 M.made.length h home (N + N') (by omega) mi
 have HL2:Hid (a ≠ b→∀ w' G',IsR w' q (M.set a (purseT h (N + N') mi)) G'→Calls Tryz.prog 108 #[.pointer (some ⟨q,0,none⟩),.int .i64 b,.agg (thc (purseT h' 0 mi'))] w' (LaidR w' q (M.set a (purseT h (N + N') mi)) G' b (purseT h' 0 mi'))):=fun hab w' G' hR' =>
  rLay_lt hR' (hQ.set ha) (by rw [WM.set_at_ne M _ (fun e=>hab e.symm)];exact hb) fun w2 hb2=>form7_9 w2 M.made.length h' home' 0 (by decide) mi'
 have hws:wrap64 (9007199254740992 - N) = 9007199254740992 - N:=by unfold wrap64;omega
 have hwn:N' ≤ 9007199254740992 - N→wrap64 (N + N') = N + N':=fun h=>by unfold wrap64;omega
 have HR0:Hid (IsR w q M G):=hR
 clear hR hQ ha hb hN hN' h7 h7' e1 e2 e3 e4 home home'
 go_enter Tryz.func104,Tryz.ntmps104
 go_wp2_with fail
 refine Calls.mono HKa.out ?_
 rintro e w2 ⟨rfl,hb2⟩
 obtain ⟨w3,hst,hb3,-,-⟩:=boxed_what' w2 (thc (purseT h N mi)) rfl (by rw [thc_lt];simp [go_sem])
 have H3:Hid (Below w.heap.size w w3):=hb2.trans (hb3.mono hb2.size)
 clear hb2 hb3 HKa
 have HB:=(show Hid _ from HKb.out w3 H3.out)
 clear HKb
 go_wp2_with fail
 refine Calls.mono HB.out ?_
 rintro e w4 ⟨rfl,hb4⟩
 have H4:Hid (Below w.heap.size w w4):=H3.out.trans (hb4.mono H3.out.size)
 clear hb4 hst H3 HB
 have HP:=(show Hid _ from HPa.out w4 H4.out)
 clear HPa
 go_wp2_with fail
 refine Calls.mono HP.out ?_
 rintro e w5 ⟨rfl,hb5⟩
 obtain ⟨w6,hst,hb6,hg6,-⟩:=boxed_what' w5 (thc (purseT h N mi)) rfl (by rw [thc_lt];simp [go_sem])
 have H6:Hid (Below w.heap.size w w6∧w6.heap[w5.heap.size]? = some (.cells (thc (purseT h N mi)) 46 (0,0))∧w.heap.size ≤ w5.heap.size):=⟨H4.out.trans ((hb5.trans (hb6.mono hb5.size)).mono H4.out.size),hg6,by have:=H4.out.size;have:=hb5.size;omega⟩
 clear hb5 hb6 hg6 H4 HP
 have HP:=(show Hid _ from HPb.out w6 H6.out.1)
 clear HPb
 go_wp2_with fail
 refine Calls.mono HP.out ?_
 rintro e w7 ⟨rfl,hb7⟩
 clear hst
 obtain ⟨w8,hst,hb8,hg8,-⟩:=boxed_what' w7 (thc (purseT h' N' mi')) rfl (by rw [thc_lt];simp [go_sem])
 have hb68:=hb7.trans (hb8.mono hb7.size)
 have H8:Hid (Below w.heap.size w w8∧w8.heap[w5.heap.size]? = some (.cells (thc (purseT h N mi)) 46 (0,0))∧w8.heap[w7.heap.size]? = some (.cells (thc (purseT h' N' mi')) 46 (0,0))∧w.heap.size ≤ w5.heap.size∧w5.heap.size < w7.heap.size):=⟨H6.out.1.trans (hb68.mono H6.out.1.size),below_blk hb68 H6.out.2.1,hg8,H6.out.2.2,by have:=blk_lt H6.out.2.1;have:=hb7.size;omega⟩
 have a8:w8.cell? ⟨w5.heap.size,8,none⟩ = some (.int .i64 N):=by rw [cell_blk H8.out.2.1];rfl
 have a10:w8.cell? ⟨w5.heap.size,10,none⟩ = some (.int .i64 mi):=by rw [cell_blk H8.out.2.1];rfl
 have b8:w8.cell? ⟨w7.heap.size,8,none⟩ = some (.int .i64 N'):=by rw [cell_blk H8.out.2.2.1];rfl
 have b10:w8.cell? ⟨w7.heap.size,10,none⟩ = some (.int .i64 mi'):=by rw [cell_blk H8.out.2.2.1];rfl
 clear hb7 hb8 hb68 hg8 H6 HP
 by_cases hab:a = b
 ·have e1:(a == b) = true:=by simpa using hab
  have HX:Hid (a = b):=hab
  clear hab
  go_wp2_with fail
  go_ret
  exact .inl ⟨.inl HX.out,rfl,H8.out.1⟩
 have e1:(a == b) = false:=by simpa using hab
 have HX:Hid (a ≠ b):=hab
 clear hab
 by_cases hmm:mi = mi'
 rotate_left
 ·have e2:(mi != mi') = true:=by simpa using hmm
  have HY:Hid (mi ≠ mi'):=hmm
  clear hmm
  go_wp2_with fail
  go_ret
  exact .inl ⟨.inr HY.out,rfl,H8.out.1⟩
 have e2:(mi != mi') = false:=by simpa using hmm
 have HY:Hid (mi = mi'):=hmm
 clear hmm
 by_cases h1:N' > 9007199254740992 - N
 ·go_wp2_with fail
  go_ret
  exact .inr (.inl ⟨HX.out,HY.out,h1,rfl,H8.out.1⟩)
 have hn:N' ≤ 9007199254740992 - N:=by omega
 have hwn':=hwn hn
 have HNn:Hid (N' ≤ 9007199254740992 - N):=hn
 have hne:w5.heap.size ≠ w7.heap.size:=by have:=H8.out.2.2.2.2;omega
 have f5:=frozen_blk H8.out.2.1 8
 have A5:(w8.setCell ⟨w5.heap.size,8,none⟩ (.int .i64 (N + N'))).heap[w5.heap.size]? = some (.cells (thc (purseT h (N + N') mi)) 46 (0,0)):=blk_setCell H8.out.2.1 8 (.int .i64 (N + N'))
 have A7:(w8.setCell ⟨w5.heap.size,8,none⟩ (.int .i64 (N + N'))).heap[w7.heap.size]? = some (.cells (thc (purseT h' N' mi')) 46 (0,0)):=blk_other H8.out.2.2.1 _ _ hne.symm
 have c7:(w8.setCell ⟨w5.heap.size,8,none⟩ (.int .i64 (N + N'))).cell? ⟨w7.heap.size,8,none⟩ = some (.int .i64 N'):=by rw [cell_blk A7];rfl
 have f7:=frozen_blk A7 8
 have hkA:=Keeps.setCell (S:=fun b=>b = w5.heap.size) w8 ⟨w5.heap.size,8,none⟩ (.int .i64 (N + N')) rfl
 obtain ⟨wA,hwA⟩:∃ wA,wA = w8.setCell ⟨w5.heap.size,8,none⟩ (.int .i64 (N + N')):=⟨_,rfl⟩
 have B7:(wA.setCell ⟨w7.heap.size,8,none⟩ (.int .i64 0)).heap[w7.heap.size]? = some (.cells (thc (purseT h' 0 mi')) 46 (0,0)):=by rw [hwA];exact blk_setCell A7 8 (.int .i64 0)
 have B5:(wA.setCell ⟨w7.heap.size,8,none⟩ (.int .i64 0)).heap[w5.heap.size]? = some (.cells (thc (purseT h (N + N') mi)) 46 (0,0)):=by rw [hwA];exact blk_other A5 _ _ hne
 rw [← hwA] at c7 f7 hkA
 have hkB:=Keeps.setCell (S:=fun b=>b = w7.heap.size) wA ⟨w7.heap.size,8,none⟩ (.int .i64 0) rfl
 have hG57:¬ G w5.heap.size∧¬ G w7.heap.size:=⟨fun hG=>by have:=HR0.out.lt _ hG;have:=H8.out.2.2.2.1;omega,fun hG=>by have:=HR0.out.lt _ hG;have:=H8.out.2.2.2;omega⟩
 have hRB:IsR (wA.setCell ⟨w7.heap.size,8,none⟩ (.int .i64 0)) q M G:=((HR0.out.below H8.out.1).keeps hkA fun b hb e=>by subst e;exact hG57.1 hb).keeps hkB fun b hb e=>by subst e;exact hG57.2 hb
 have hGB:Grew G w G (wA.setCell ⟨w7.heap.size,8,none⟩ (.int .i64 0)):=Grew.puts (Grew.puts ⟨Keeps.of_below H8.out.1,fun b hb=>.inl hb⟩ hkA fun b e=>by subst e;exact H8.out.2.2.2.1) hkB fun b e=>by subst e;have:=H8.out.2.2.2;omega
 have HLa:=(show Hid (Calls Tryz.prog 108 #[.pointer (some ⟨q,0,none⟩),.int .i64 a,.agg (thc (purseT h (N + N') mi))] (wA.setCell ⟨w7.heap.size,8,none⟩ (.int .i64 0)) (LaidR (wA.setCell ⟨w7.heap.size,8,none⟩ (.int .i64 0)) q M G a (purseT h (N + N') mi))) from HL1.out hn _ G hRB)
 have lB:=loadWhat_blk B5 rfl
 have HB:=(show Hid ((wA.setCell ⟨w7.heap.size,8,none⟩ (.int .i64 0)).heap[w7.heap.size]? = some (.cells (thc (purseT h' 0 mi')) 46 (0,0))∧¬ G w7.heap.size∧Grew G w G (wA.setCell ⟨w7.heap.size,8,none⟩ (.int .i64 0))) from ⟨B7,hG57.2,hGB⟩)
 clear hn hwn hne A5 A7 hkA B7 B5 hkB hG57 hRB hGB HL1 HR0 H8
 rw [hwA] at HLa lB HB c7 f7
 clear hwA
 go_wp2_with fail
 refine Calls.mono HLa.out ?_
 rintro e w10 ⟨rfl,G1,hR1,hG1⟩
 have g10:=(hG1.1.block _ (blk_lt HB.out.1) HB.out.2.1).trans HB.out.1
 have lC:=loadWhat_blk g10 rfl
 have HLb:=(show Hid (Calls Tryz.prog 108 #[.pointer (some ⟨q,0,none⟩),.int .i64 b,.agg (thc (purseT h' 0 mi'))] w10 (LaidR w10 q (M.set a (purseT h (N + N') mi)) G1 b (purseT h' 0 mi'))) from HL2.out HX.out w10 G1 hR1)
 have HC:=(show Hid (Grew G w G1 w10) from HB.out.2.2.both hG1)
 clear hR1 hG1 g10 HLa HB lB HL2 c7 f7 hst
 go_wp2_with fail
 refine Calls.mono HLb.out ?_
 rintro e w12 ⟨rfl,G2,hR2,hG2⟩
 have HD:=(show Hid (IsR w12 q ((M.set a (purseT h (N + N') mi)).set b (purseT h' 0 mi')) G2∧Grew G w G2 w12) from ⟨hR2,HC.out.both hG2⟩)
 clear hR2 hG2 HLb HC lC
 go_wp2_with fail
 go_ret
 exact .inr (.inr ⟨HX.out,HY.out,HNn.out,rfl,G2,HD.out⟩)
end Go.Proofs.YthaliljaglldjaaGreat
/- Purses: the purses of a mint. -/
namespace Go.Proofs.YthaliljaglldjaaGreat
open Go.RowKit Go.Shelf Go.ChangeMaps Go.MapKept
attribute [local go_sem] Oper.semAt_some
def isP (r:Int) (x:Int × Th):Bool:=decide (x.2.kind = 9) && decide (x.2.tgt = r)
structure PsAt (w:World) (b0 B:Nat) (p:Nat) (r:Int) (xs:List (Int × Th)) (W:World):Prop where
 below:Below w.heap.size w W
 size:b0 ≤ W.heap.size
 q1:W.cell? ⟨w.heap.size,0,none⟩ = some (.pointer (some ⟨p,0,none⟩))
 q2:W.cell? ⟨w.heap.size + 1,0,none⟩ = some (.int .i64 r)
 row:∃ v,W.heap[B]? = some (.cells #[v] 77 (0,0))∧W.ownsRow b0 25 1 v (xs.filter (isP r)).length ((xs.filter (isP r)).map fun x=>.int .i64 x.1)
theorem PsAt.grown {w W W':World} {b0 B p:Nat} {r:Int} {xs:List (Int × Th)} {row:Option Nat} (h:PsAt w b0 B p r xs W) (hB:B < b0) (hb0:w.heap.size + 2 ≤ b0) (hg:W.grownBy W' row)
 (hr:∀ x,row = some x→b0 ≤ x∧∃ o:Obj,W.heap[x]? = some o∧o.isCells = false):PsAt w b0 B p r xs W':=by
 have hk:∀ c,c < b0→c < W.heap.size→W'.heap[c]? = W.heap[c]?:=fun c hc hl=>hg.block c hl (fun e=>by have:=(hr c e.symm).1;omega)
 obtain ⟨v,hv,hrow⟩:=h.row
 have l1:=World.block_lt_of_cell? _ _ h.q1
 have l2:=World.block_lt_of_cell? _ _ h.q2
 refine ⟨h.below.grown hg h.below.size (fun k e=>by have:=(hr k e).1;omega),Nat.le_trans h.size hg.size,?_,?_,v,(hk B hB (blk_lt hv)).trans hv,row_from hrow hg (fun x e=>(hr x e).2)⟩
 ·rw [World.cell?_of_block (hk _ (by show w.heap.size < b0;omega) l1)];exact h.q1
 ·rw [World.cell?_of_block (hk _ (by show w.heap.size + 1 < b0;omega) l2)];exact h.q2
theorem PsAt.skip {w W:World} {b0 B p:Nat} {r:Int} {xs:List (Int × Th)} {x:Int × Th} (h:PsAt w b0 B p r xs W) (hx:isP r x = false):PsAt w b0 B p r (xs ++ [x]) W :=
 ⟨h.below,h.size,h.q1,h.q2,by
  have e:(xs ++ [x]).filter (isP r) = xs.filter (isP r):=by simp [List.filter_append,hx]
  rw [e]
  exact h.row⟩
theorem PsAt.push {w:World} {b0 B p:Nat} {r:Int} {xs:List (Int × Th)} {x:Int × Th} {W2 W3:World} {v v3:Value} (h:PsAt w b0 B p r xs W2) (hB:B < b0) (hb0:w.heap.size + 2 ≤ b0) (hBx:w.heap.size + 1 < B)
 (hv:W2.heap[B]? = some (.cells #[v] 77 (0,0))) (hrow:W2.ownsRow b0 25 1 v (xs.filter (isP r)).length ((xs.filter (isP r)).map fun x=>.int .i64 x.1))
 (r1:W3.ownsRow b0 25 1 v3 ((xs.filter (isP r)).length + 1) (((xs.filter (isP r)).map fun x=>.int .i64 x.1) ++ [.int .i64 x.1])) (r2:W2.grownBy W3 v.ownBlock) (r3:Below b0 W2 W3)
 (r4:v3.ownBlock = v.ownBlock∨v3.ownBlock = some (W2.heap.size + 1)) (hx:isP r x = true) :
 PsAt w b0 B p r (xs ++ [x]) (W3.setCell ⟨B,0,none⟩ v3)∧KeepsOthers W2 (W3.setCell ⟨B,0,none⟩ v3)∧KpO (boxOwn B) W2 (W3.setCell ⟨B,0,none⟩ v3):=by
 have hv3:=(r3.block B hB).trans hv
 have hs:=heap_setCell_box v3 hv3
 have hz:(W3.setCell ⟨B,0,none⟩ v3).heap.size = W3.heap.size:=by simp [World.setCell]
 have ho:∀ k,k ≠ B→(W3.setCell ⟨B,0,none⟩ v3).heap[k]? = W3.heap[k]?:=fun k hk=>Below.heap_setCell _ _ _ _ hk
 have hsize:=r3.size
 have l1:=World.block_lt_of_cell? _ _ h.q1
 have l2:=World.block_lt_of_cell? _ _ h.q2
 refine ⟨⟨(h.below.trans (r3.mono (by omega))).setCell (by show w.heap.size ≤ B;omega) _,by rw [hz];exact Nat.le_trans h.size hsize,?_,?_,v3,hs,?_⟩,⟨by rw [hz];exact hsize,fun k o hk hc=>?_⟩,⟨by rw [hz];exact hsize,fun b cs e fr hb hn=>?_,fun b hb=>?_⟩⟩
 ·rw [World.cell?_of_block ((ho _ (by show w.heap.size ≠ B;omega)).trans (r3.block _ (by show w.heap.size < b0;omega)))];exact h.q1
 ·rw [World.cell?_of_block ((ho _ (by show w.heap.size + 1 ≠ B;omega)).trans (r3.block _ (by show w.heap.size + 1 < b0;omega)))];exact h.q2
 ·rw [List.filter_append,List.map_append,List.length_append]
  simp only [List.filter_cons,hx,if_true,List.filter_nil,List.map_cons,List.map_nil,List.length_cons,List.length_nil]
  refine r1.kept (grownBy_setCell' W3 B v3) (.inr fun e=>?_)
  have:=r1.lt B e
  omega
 ·have hkB:k ≠ B:=fun e=>by
   subst e
   rw [hv] at hk
   cases hk
   cases hc
  rw [ho k hkB,r2.block k (blk_lt hk) (fun e=>?_)]
  ·exact hk
  ·rcases hrow.2 with ⟨rfl,-⟩ | ⟨g,cap,cur,rfl,-,hg,-⟩
   ·cases e
   ·simp only [Value.ownBlock,Option.some.injEq] at e
    subst e
    rw [hg] at hk
    cases hk
    cases hc
 ·have hbB:b ≠ B:=fun e=>hn (.inl e)
  rw [ho b hbB,r2.block b (blk_lt hb) (fun e=>hn (.inr ⟨v,by rw [cell_blk hv];rfl,e.symm⟩))]
  exact hb
 ·rcases hb with rfl | ⟨u,hu,hub⟩
  ·exact .inl (.inl rfl)
  ·have hu':v3 = u:=by
    rw [cell_blk hs] at hu
    exact Option.some.inj (show some v3 = some u from hu)
   subst hu'
   rcases r4 with h4 | h4
   ·exact .inl (.inr ⟨v,by rw [cell_blk hv];rfl,h4.symm.trans hub⟩)
   ·rw [h4] at hub
    cases hub
    exact .inr (by omega)
set_option maxHeartbeats 4000000 in
set_option maxRecDepth 100000 in
theorem Purses_W {w:World} {p:Nat} {M:WM} {F:Nat→Prop} (hW:IsW w p M F) {r h N lo:Int} (hr:(Lit.int .i64 r).wf = true) (ht:M.at r = some (mintT h N lo)) (hP:∀ x ∈ M.things,x.2.kind = 9→∃ h n m,x.2 = purseT h n m) :
 Calls Tryz.prog 200 #[.pointer (some ⟨p,0,none⟩),.int .i64 r] w fun e w'=>∃ v,e = .returned (.tuple #[v,.int .i64 0]) ∧
  w'.ownsRow w.heap.size 25 1 v (M.things.filter (isP r)).length ((M.things.filter (isP r)).map fun x=>.int .i64 x.1)∧Below w.heap.size w w':=by
 have HW:=(show Hid (IsW w p M F) from hW)
 have hf:=fun w1 (hb:Below w.heap.size w w1)=>find_lt (hW.below hb) (q:=8) hr ht plain0 (.inl rfl)
 simp only [if_true] at hf
 have HF:=(show Hid _ from hf)
 have HP:=(show Hid _ from hP)
 clear hf hW ht hP
 refine (callsIn_wide (n:=5)).1 ?_
 refine callsIn_of_wp_marks Tryz.func200 rfl trivial ?_ rfl
 simp only [Tryz.ntmps200,List.size_toArray,List.length_cons,List.length_nil,Nat.reduceAdd,Nat.reduceSub,Array.replicate_succ,Array.replicate_zero,List.push_toArray,List.append_toArray,List.nil_append,List.cons_append]
 gi_wp2_with fail
 refine ⟨trivial,(callsIn_wide.2 (HF.out _ ((((Below.refl _ w).alloc (Nat.le_refl _) _).alloc (by simp) _)))).mono ?_⟩
 rintro e w1 ⟨rfl,hb1⟩
 obtain ⟨w2,hst,hb2,-,hs2⟩:=boxed_what' w1 #[.int .u8 8,.int .i64 h,.int .u8 0,.int .i64 0,.string ⟨#[]⟩,.slice none 0 0,.int .i64 0,.slice none 0 0,.int .i64 N,.int .i64 lo,.int .i64 0,.int .i64 0,.int .u8 0,.bool false,.slice none 0 0,.slice none 0 0] rfl (by simp [go_sem])
 have hB0:Below (w.heap.size + 2) ((w.alloc (.cells #[.pointer (some ⟨p,0,none⟩)] 31)).alloc (.cells #[.int .i64 r] 25)) w2:=by
  have:=hb1.trans (hb2.mono hb1.size)
  simpa using this
 have hsz:w.heap.size + 2 ≤ w1.heap.size:=by have:=hb1.size;simpa using this
 have q1:(w2.alloc (.cells #[.slice none 0 0] 77)).cell? ⟨w.heap.size,0,none⟩ = some (.pointer (some ⟨p,0,none⟩)):=by
  rw [cell_blk ((Below.heap_alloc _ _ _ (by omega)).trans ((hB0.block _ (by omega)).trans (blk2_old w _ _)))];rfl
 have q2:(w2.alloc (.cells #[.slice none 0 0] 77)).cell? ⟨w.heap.size + 1,0,none⟩ = some (.int .i64 r):=by
  rw [cell_blk ((Below.heap_alloc _ _ _ (by omega)).trans ((hB0.block _ (by omega)).trans (blk2_new w _ _)))];rfl
 have Hsz:=(show Hid (w.heap.size + 2 ≤ w1.heap.size∧w2.heap.size = w1.heap.size + 1) from ⟨hsz,hs2⟩)
 have HB2:Hid (Below w.heap.size w (w2.alloc (.cells #[.slice none 0 0] 77))):=by
  have h1:Below w.heap.size w ((w.alloc (.cells #[.pointer (some ⟨p,0,none⟩)] 31)).alloc (.cells #[.int .i64 r] 25)):=((Below.refl _ w).alloc (Nat.le_refl _) _).alloc (by simp) _
  exact (h1.trans (hB0.mono (by omega))).alloc (by omega) _
 have c8:(w2.alloc (.cells #[.slice none 0 0] 77)).heap[w1.heap.size + 1]? = some (.cells #[.slice none 0 0] 77 (0,0)):=by rw [← hs2];exact World.alloc_heap_new _ _
 have HC8:=(show Hid _ from c8)
 clear hb1 hb2 hB0 hsz c8
 gi_wp2_with fail
 clear hst
 revert q1 q2 Hsz HB2 HC8
 generalize w2.alloc _ = w3
 generalize hA:Value.agg #[.int .u8 8,.int .i64 h,.int .u8 0,.int .i64 0,.string ⟨#[]⟩,.slice none 0 0,.int .i64 0,.slice none 0 0,.int .i64 N,.int .i64 lo,.int .i64 0,.int .i64 0,.int .u8 0,.bool false,.slice none 0 0,.slice none 0 0] = A
 intro q1 q2 Hsz HB2 HC8
 clear hA
 refine ⟨trivial,(callsIn_wide.2 (Things_W w3 p)).mono ?_⟩
 rintro e _ ⟨rfl,rfl⟩
 gi_wp2_with fail
 have hB3:w1.heap.size + 1 < w3.heap.size:=blk_lt HC8.out
 have HB4:Hid (Below w.heap.size w (w3.alloc (.cells #[.pointer (some ⟨p,0,none⟩)] 31))):=HB2.out.alloc HB2.out.size _
 have hc8:(w3.alloc (.cells #[.pointer (some ⟨p,0,none⟩)] 31)).heap[w1.heap.size + 1]? = some (.cells #[.slice none 0 0] 77 (0,0)):=(Below.heap_alloc _ _ _ hB3).trans HC8.out
 have hbx:(w3.alloc (.cells #[.pointer (some ⟨p,0,none⟩)] 31)).cell? ⟨w3.heap.size,0,none⟩ = some (.pointer (some ⟨p,0,none⟩)):=by
  rw [cell_blk (World.alloc_heap_new w3 _)];rfl
 have hin:PsAt w (w3.alloc (.cells #[.pointer (some ⟨p,0,none⟩)] 31)).heap.size (w1.heap.size + 1) p r [] (w3.alloc (.cells #[.pointer (some ⟨p,0,none⟩)] 31)):=by
  refine ⟨HB4.out,Nat.le_refl _,?_,?_,_,hc8,World.ownsRow_nil _ _ _ _⟩
  ·rw [World.cell?_of_block (Below.heap_alloc _ _ _ (World.block_lt_of_cell? _ _ q1))];exact q1
  ·rw [World.cell?_of_block (Below.heap_alloc _ _ _ (World.block_lt_of_cell? _ _ q2))];exact q2
 have hsz4:w.heap.size + 2 ≤ (w3.alloc (.cells #[.pointer (some ⟨p,0,none⟩)] 31)).heap.size∧w1.heap.size + 1 < (w3.alloc (.cells #[.pointer (some ⟨p,0,none⟩)] 31)).heap.size:=by
  have:=Hsz.out
  simp
  omega
 have hown:∀ W,Below (w3.alloc (.cells #[.pointer (some ⟨p,0,none⟩)] 31)).heap.size (w3.alloc (.cells #[.pointer (some ⟨p,0,none⟩)] 31)) W→∀ b,boxOwn (w1.heap.size + 1) W b→b < (w3.alloc (.cells #[.pointer (some ⟨p,0,none⟩)] 31)).heap.size:=by
  rintro W hb b (rfl | ⟨v,hv,hv2⟩)
  ·exact hsz4.2
  ·rw [cell_blk ((hb.block _ hsz4.2).trans hc8)] at hv
   cases hv
   cases hv2
 have hseq:=things1_seq (n:=4) (HW.out.below HB4.out) hbx (boxOwn (w1.heap.size + 1)) hown (fun y:{x // x ∈ M.things}=>y.1) M.things.attach (List.attach_map_subtype_val _)
 have HSQ:=(show Hid _ from hseq)
 clear hseq hown hbx hc8 q1 q2
 generalize hw4:w3.alloc (.cells #[.pointer (some ⟨p,0,none⟩)] 31) = w4 at *
 generalize w3.heap.size = bx at *
 refine wpIn_rangeFunc_ownF rfl (by decide) (gf:=224) (lb:=#[.pointer (some ⟨bx,0,none⟩)]) rfl trivial (enters_of Tryz.func224 (by kernel_rfl) rfl) HSQ.out (fun h k=>h.trans k)
  (fun W l o o' hl ho hc _=>boxOwn_put hsz4.2 W l o o' hl ho hc) (Below.refl _ _) (fun _=>rfl)
  (fun (pre:List {x // x ∈ M.things}) W=>PsAt w w4.heap.size (w1.heap.size + 1) p r (pre.map (fun x=>x.1)) W) (fun _ _ _=>False)
  (fun s W W' row hs hg hr=>by exact PsAt.grown hs hsz4.2 hsz4.1 hg hr) (fun _ _ _ _ _ hs _ _=>hs) hin
  (fun x=>{ tmps:=#[.pointer (some ⟨p,0,none⟩),.int .i64 r,.pointer (some ⟨w.heap.size,0,none⟩),.pointer (some ⟨w.heap.size + 1,0,none⟩),.slice none 0 0,.int .i64 0,.pointer (some ⟨w1.heap.size,0,none⟩),.int .i64 0,.pointer (some ⟨w1.heap.size + 1,0,none⟩),.int .i64 x.1.1,.int .u8 x.1.2.kind,undef,undef,.tuple #[A,.int .i64 0],.pointer (some ⟨p,0,none⟩),.int .i64 r,.tuple #[A,.int .i64 0],A,.int .i64 0,.int .i64 0,.bool false,undef,.pointer (some ⟨p,0,none⟩),.func (.func 224) #[] #[.pointer (some ⟨bx,0,none⟩)],.int .i64 x.1.1,.int .u8 x.1.2.kind,undef,undef,undef,undef,undef,undef,undef,undef,undef,undef,undef,undef,undef,undef,undef,undef,undef],defers:=[] }) ?assign ?body ?done ?stop
 case assign =>
  intro l x W K hK
  gi_wp2
  exact hK
 case body =>
  rintro l pre ⟨⟨i,t⟩,hm⟩ W hI hlen
  have Hk1:Hid ((((pre.map (fun x=>x.1)).filter (isP r)).length:Int) ≤ 1099511627777):=by
   have h1:=HW.out.ok.len_le
   have h2:=HW.out.ok.last.2
   have h3:=List.length_filter_le (isP r) (pre.map (fun x=>x.1))
   rw [List.length_map] at h3
   show _ ≤ _
   omega
  clear hlen
  have hat:M.at i = some t:=HW.out.ok.at_of_mem hm
  have hiw:=HW.out.ok.at_wf hat
  by_cases hk:t.kind = 9
  ·obtain ⟨h',n',m',rfl⟩:=HP.out (i,t) hm hk
   have hwh:=fun W' (hb':Below W.heap.size W W')=>What_lt ((HW.out.below hI.below).below hb') hiw hat plain0
   have HWH:=(show Hid _ from hwh)
   have HI:=(show Hid _ from hI)
   have q1:=hI.q1
   have q2:=hI.q2
   clear hwh hI hk
   gi_wp2_with fail
   refine ⟨trivial,(CallsIn.inRound l (callsIn_wide.2 (HWH.out W (Below.refl _ _)))).mono ?_⟩
   rintro e W1 ⟨rfl,hb1⟩
   obtain ⟨W2,hst,hb2,hg2,hs2'⟩:=boxed_what' W1 #[.int .u8 9,.int .i64 h',.int .u8 0,.int .i64 0,.string ⟨#[]⟩,.slice none 0 0,.int .i64 0,.slice none 0 0,.int .i64 n',.int .i64 0,.int .i64 m',.int .i64 0,.int .u8 0,.bool false,.slice none 0 0,.slice none 0 0] rfl (by simp [go_sem])
   have hB2:Below W.heap.size W W2:=hb1.trans (hb2.mono hb1.size)
   have HBW2:=(show Hid (Below W.heap.size W W2) from hB2)
   have HI2:Hid (PsAt w w4.heap.size (w1.heap.size + 1) p r (List.map (fun x=>x.val) pre) W2):=PsAt.grown HI.out hsz4.2 hsz4.1 (grownBy_of_below hB2) (fun _ e=>by cases e)
   have q3:=HI2.out.q2
   have q3':W1.heap.size < W2.heap.size:=by omega
   have c10:W2.cell? ⟨W1.heap.size,10,none⟩ = some (.int .i64 m'):=by rw [cell_blk hg2];rfl
   obtain ⟨vB,hv,hrow⟩:=HI2.out.row
   have HV:=(show Hid _ from hv)
   have HRow:=(show Hid _ from hrow)
   have cB:W2.cell? ⟨w1.heap.size + 1,0,none⟩ = some vB:=by rw [cell_blk hv];rfl
   clear hb1 hb2 hg2 hB2 hv hrow q1 q2 hs2'
   have HBW:Hid (w1.heap.size + 1 < W.heap.size):=Nat.lt_of_lt_of_le hsz4.2 HI.out.size
   by_cases hmr:m' = r
   ·have Hx:Hid (isP r (i,purseT h' n' m') = true):=by show _ = _;simp [isP,hmr]
    have hmr':(m' == r) = true:=by simpa using hmr
    have HSZ2:Hid (w4.heap.size ≤ W2.heap.size):=HI2.out.size
    clear hmr
    gi_wp2_with (gi_at_builtin;refine append_oneA rfl _ _ 77 rfl w4.heap.size 25 (.int .i64 0) 8 Tryz.underlying77 infoRef rfl vB _ _ rfl HRow (.int .i64 i) rfl rfl Hk1 (by decide) HSZ2 ?_;intro v3 W3 r1 r2 r3 r4
                 have hB3':W3.heap[w1.heap.size + 1]? = some (.cells #[vB] 77 (0,0)):=(r3.out.block _ hsz4.2).trans HV.out
                 obtain ⟨cB3,fB3⟩:=box_facts hB3'
                 obtain ⟨sa,sn,sc,rfl⟩:∃ sa sn sc,v3 = .slice sa sn sc:=by rcases r1.out.2 with ⟨e,-⟩ | ⟨g,cap,cur,e,-⟩ <;> exact ⟨_,_,_,e⟩)
    obtain ⟨p1,p2,p3⟩:=PsAt.push HI2.out hsz4.2 hsz4.1 (by have:=Hsz.out;omega) HV.out HRow.out r1.out r2.out r3.out r4.out Hx.out
    refine ⟨(keepsOthers_of_below HBW2.out).trans p2,(KpO_of_below HBW.out HBW2.out).trans p3,?_⟩
    show PsAt _ _ _ _ _ (List.map _ (pre ++ [_])) _
    rw [List.map_append]
    exact p1
   ·have hmr':(m' == r) = false:=by simpa using hmr
    have Hx:Hid (isP r (i,purseT h' n' m') = false):=by show _ = _;simp [isP,hmr]
    gi_wp2_with fail
    refine ⟨keepsOthers_of_below HBW2.out,KpO_of_below HBW.out HBW2.out,?_⟩
    show PsAt _ _ _ _ _ (List.map _ (pre ++ [_])) _
    rw [List.map_append]
    exact PsAt.skip HI2.out Hx.out
  ·have hk0:(t.kind != 9) = true:=by simpa using hk
   have HI:=(show Hid _ from hI)
   have Hx:Hid (isP r (i,t) = false):=by show _ = _;simp [isP,hk]
   clear hI
   gi_wp2_with fail
   refine ⟨keepsOthers_of_below (Below.refl _ _),KpO.refl _ _,?_⟩
   show PsAt _ _ _ _ _ (List.map _ (pre ++ [_])) _
   rw [List.map_append]
   exact PsAt.skip HI.out Hx.out
 case done =>
  rintro D ys W hD rfl hI hK
  rw [List.attach_map_subtype_val] at hI
  obtain ⟨vB,hv,hrow⟩:=hI.row
  have cB:W.cell? ⟨w1.heap.size + 1,0,none⟩ = some vB:=by rw [cell_blk hv];rfl
  have HI:=(show Hid _ from hI)
  have HRow:=(show Hid _ from hrow)
  clear hI hv hrow
  gi_wp2_with fail
  refine ⟨by simp,.inl ⟨_,_,rfl,run_takeDeferred hK,?_⟩⟩
  refine ⟨_,results_tmp2 rfl _ _ _,vB,rfl,row_base (by omega) (row_from HRow.out (grownBy_putObj' W D _) (fun x e=>by cases e;exact ⟨_,hK,rfl⟩)),?_⟩
  exact (HI.out.grown hsz4.2 hsz4.1 (grownBy_putObj' W D _) (fun x e=>by cases e;exact ⟨hD,_,hK,rfl⟩)).below
 case stop =>
  rintro D c pre W _ _ h _
  exact h.elim
end Go.Proofs.YthaliljaglldjaaGreat
/- posternref10's Purses: the mint's purses by their numbers. -/
namespace Go.Proofs.YthaliljaglldjaaGreat
open Go.RowKit Go.ChangeMaps Go.MapKept
variable {w:World} {q:Nat} {M:WM} {G:Nat→Prop}
def pursesTo (M:WM) (r:Int) (i:Nat):List Int:=((M.things.take i).filter (isP r)).map (·.1)
theorem pursesTo_len (M:WM) (r:Int) (i:Nat):(pursesTo M r i).length ≤ M.things.length:=by
 unfold pursesTo
 rw [List.length_map]
 have h1:=List.length_filter_le (isP r) (M.things.take i)
 have h2:(M.things.take i).length ≤ M.things.length:=by rw [List.length_take];omega
 omega
theorem pursesTo_succ {M:WM} {r:Int} {i:Nat} {x:Int × Th} (hx:M.things[i]? = some x):pursesTo M r (i + 1) = if isP r x then pursesTo M r i ++ [x.1] else pursesTo M r i:=by
 unfold pursesTo
 rw [List.take_add_one,hx]
 simp only [Option.toList_some,List.filter_append,List.map_append]
 cases h:isP r x <;> simp [h]
theorem pursesTo_all (M:WM) (r:Int):pursesTo M r M.things.length = (M.things.filter (isP r)).map (·.1):=by
 unfold pursesTo
 rw [List.take_length]
set_option maxHeartbeats 4000000 in
set_option maxRecDepth 20000 in
theorem pursesq_W (hR:IsR w q M G) (hN:ROk M) (r:Int) (hyes:findE M 8 r = 0):Calls Tryz.prog 201 #[.pointer (some ⟨q,0,none⟩),.int .i64 r] w fun e w'=>∃ v,e = .returned (.tuple #[v,.int .i64 0]) ∧
 w'.ownsRow w.heap.size 25 1 v (pursesTo M r M.things.length).length ((pursesTo M r M.things.length).map (Value.int .i64))∧Below w.heap.size w w':=by
 have HA:=(show Hid _ from kindq_W hR hN r)
 have hone:=hN.one r
 have hy:(M.at r).isSome = true∧(at7 M r).kind = 8:=by
  unfold findE at hyes
  split at hyes
  ·rename_i h
   split at hyes
   ·rename_i h2
    exact ⟨h,h2⟩
   ·cases hyes
  ·cases hyes
 have hkE:kindE M r = 0:=by unfold kindE;rw [if_pos hy.1]
 rw [hkE] at HA
 have hk8:(at7 M r).kind = 8:=hy.2
 clear hyes hy hkE
 obtain ⟨sP,sC,sT,sM,hV⟩:=hR
 obtain ⟨n,hn⟩:∃ n,n = M.things.length:=⟨_,rfl⟩
 obtain ⟨p0,c0,hsT⟩:∃ p c,sT = .slice p n c:=by
  obtain ⟨h1,⟨rfl,h0⟩ | ⟨g,cap,cur,rfl,-⟩⟩:=hV.rt
  ·exact ⟨none,0,by rw [hn,h0]⟩
  ·exact ⟨_,_,by rw [hn]⟩
 subst hsT
 have HV:=(show Hid (RVw w q M G sP sC (.slice p0 n c0) sM) from hV)
 have HN:Hid (n = M.things.length∧n ≤ 100000):=⟨hn,by have:=hN.len;omega⟩
 rw [← hn]
 clear hV hn hN
 generalize at7 M r = t at *
 obtain ⟨tk,th,tv,tvl,tvs,tvals,tn,tl,ttg,tbi,tset,tfu,tcode,tnames⟩:=t
 obtain rfl:tk = 8:=hk8
 go_enter Tryz.func201,Tryz.ntmps201
 go_wp2_with fail
 refine Calls.mono HA.out ?_
 rintro e w2 ⟨rfl,hb2⟩
 obtain ⟨w3,hst,hb3,hg3,-⟩:=boxed_what' w2 (thc ⟨8,th,tv,tvl,tvs,tvals,tn,tl,ttg,tbi,tset,tfu,tcode,tnames⟩) rfl hone
 have k0:w3.cell? ⟨w2.heap.size,0,none⟩ = some (.int .u8 8):=by rw [cell_blk hg3];rfl
 have H3:Hid (Below w.heap.size w w3):=hb2.trans (hb3.mono hb2.size)
 clear hb2 hb3 hg3 HA
 go_wp2_with fail
 clear hst k0
 go_loopw [8,9] (fun vl vi wr=>∃ (i:Nat) (u:Value),vl = u∧vi = .int .i64 i∧i ≤ n∧Hid (Below w.heap.size w wr∧wr.ownsRow w.heap.size 25 1 u (pursesTo M r i).length ((pursesTo M r i).map (Value.int .i64)))) (fun _ vi _=>n - (intOf vi).toNat)
 case atStart=>exact ⟨0,_,rfl,rfl,Nat.zero_le _,H3.out,World.ownsRow_nil _ _ _ _⟩
 case round =>
  obtain ⟨i,u,rfl,rfl,hi,HB⟩:=hrel
  have HV1:=(show Hid _ from HV.out.below HB.out.1)
  have d2:wr.cell? ⟨q,2,none⟩ = some (.slice p0 n c0):=by rw [cell_blk HV1.out.blk];rfl
  by_cases hin:i < n
  ·have hiz:(i:Int) < (n:Int):=by omega
   obtain ⟨x,hx⟩:∃ x,M.things[i]? = some x:=⟨_,List.getElem?_eq_getElem (by have:=HN.out.1;omega)⟩
   have HS:=(show Hid _ from pursesTo_succ (r:=r) hx)
   obtain ⟨g,c,hs,hg,hc⟩:=HV1.out.ent hx
   have hp0:p0 = some ⟨g,0,none⟩:=by injection hs
   subst hp0
   have k0:wr.cell? ⟨g,i * 17,none⟩ = some (.int .i64 x.1):=hc 0 _ rfl
   have k1:wr.cell? ⟨g,i * 17 + 1,none⟩ = some (.int .u8 x.2.kind):=hc 1 _ rfl
   have k11:wr.cell? ⟨g,i * 17 + 11,none⟩ = some (.int .i64 x.2.tgt):=hc 11 _ rfl
   have hwi:wrap64 ((i:Int) + 1) = (i:Int) + 1:=by have:=HN.out.2;unfold wrap64;omega
   have HD:=(show Hid _ from HV1.out.blk)
   clear hs hc hx
   by_cases hk:x.2.kind = 9
   ·have hkb:(x.2.kind == 9) = true:=by simpa using hk
    by_cases ht:x.2.tgt = r
    ·have htb:(x.2.tgt == r) = true:=by simpa using ht
     have HP:Hid (pursesTo M r (i + 1) = pursesTo M r i ++ [x.1]):=HS.out.trans (if_pos (by simp [isP,hk,ht]))
     have HLn:Hid (((pursesTo M r i).length:Int) ≤ 1099511627777):=by have:=pursesTo_len M r i;have:=HN.out;show _ ≤ _;omega
     have HZ:Hid (w.heap.size ≤ wr.heap.size):=HB.out.1.size
     clear hk ht HS
     go_wp2_with (first
      | (at_builtin;refine append_ref rfl _ _ rfl w.heap.size _ (pursesTo M r i) rfl HB.out.2 x.1 rfl HLn HZ.out ?_;intro v' w5 hown' hg5 hb5))
     have HB5:Hid (Below w.heap.size w w5∧w5.ownsRow w.heap.size 25 1 v' (pursesTo M r (i + 1)).length ((pursesTo M r (i + 1)).map (Value.int .i64))):=⟨HB.out.1.trans hb5,by rw [HP.out];exact hown'⟩
     clear hown' hg5 hb5 HB
     go_wp2_with fail
     go_roundw
     case rel=>exact ⟨i + 1,_,rfl,by go_num,by omega,HB5.out⟩
     case measure=>rw [hwi];clear hwi;simp [intOf];omega
    ·have htb:(x.2.tgt == r) = false:=by simpa using ht
     have HB5:=(show Hid (Below w.heap.size w wr∧wr.ownsRow w.heap.size 25 1 _ (pursesTo M r (i + 1)).length ((pursesTo M r (i + 1)).map (Value.int .i64))) from ⟨HB.out.1,by rw [HS.out.trans (if_neg (by simp [isP,ht]))];exact HB.out.2⟩)
     clear hk ht HS HB
     go_wp2_with fail
     go_roundw
     case rel=>exact ⟨i + 1,_,rfl,by go_num,by omega,HB5.out⟩
     case measure=>rw [hwi];clear hwi;simp [intOf];omega
   ·have hkb:(x.2.kind == 9) = false:=by simpa using hk
    have HB5:=(show Hid (Below w.heap.size w wr∧wr.ownsRow w.heap.size 25 1 _ (pursesTo M r (i + 1)).length ((pursesTo M r (i + 1)).map (Value.int .i64))) from ⟨HB.out.1,by rw [HS.out.trans (if_neg (by simp [isP,hk]))];exact HB.out.2⟩)
    clear hk HS HB
    go_wp2_with fail
    go_roundw
    case rel=>exact ⟨i + 1,_,rfl,by go_num,by omega,HB5.out⟩
    case measure=>rw [hwi];clear hwi;simp [intOf];omega
  ·have hiz:¬ (i:Int) < (n:Int):=by omega
   obtain rfl:i = n:=by omega
   have hkk:¬ (i:Int) < (i:Int):=by omega
   go_wp2_with fail
   go_returns
   exact ⟨_,rfl,HB.out.2,HB.out.1⟩
set_option maxHeartbeats 2000000 in
set_option maxRecDepth 8000 in
theorem pursesq_no (hR:IsR w q M G) (hN:ROk M) (r:Int) (hno:findE M 8 r ≠ 0):Calls Tryz.prog 201 #[.pointer (some ⟨q,0,none⟩),.int .i64 r] w fun e w'=>e = .returned (.tuple #[.slice none 0 0,.int .i64 (findE M 8 r)])∧Below w.heap.size w w':=by
 have HA:=(show Hid _ from kindq_W hR hN r)
 have hone:=hN.one r
 obtain ⟨E,hE⟩:∃ E,E = findE M 8 r:=⟨_,rfl⟩
 rw [← hE] at hno ⊢
 unfold findE at hE
 unfold kindE at HA
 clear hR hN
 generalize at7 M r = t at *
 generalize (M.at r).isSome = B at *
 have HE:=(show Hid _ from hE)
 have HNo:=(show Hid _ from hno)
 clear hE hno
 go_enter Tryz.func201,Tryz.ntmps201
 go_wp2_with fail
 refine Calls.mono HA.out ?_
 rintro e w2 ⟨rfl,hb2⟩
 obtain ⟨w3,hst,hb3,hg3,-⟩:=boxed_what' w2 (thc t) rfl hone
 have k0:w3.cell? ⟨w2.heap.size,0,none⟩ = some (.int .u8 t.kind):=by rw [cell_blk hg3];rfl
 have H3:Hid (Below w.heap.size w w3):=hb2.trans (hb3.mono hb2.size)
 clear hb2 hb3 hg3 HA
 cases B
 ·have HE2:Hid (E = 5):=HE.out
  clear HE
  go_wp2_with fail
  go_returns
  exact ⟨by rw [HE2.out];rfl,H3.out⟩
 ·by_cases h8:t.kind = 8
  ·exact absurd (HE.out.trans (by rw [if_pos rfl,if_pos h8])) HNo.out
  ·have hb:(t.kind != 8) = true:=by simpa using h8
   have HE2:Hid (E = 100):=HE.out.trans (by rw [if_pos rfl,if_neg h8])
   clear HE h8
   go_wp2_with fail
   go_returns
   exact ⟨by rw [HE2.out];rfl,H3.out⟩
end Go.Proofs.YthaliljaglldjaaGreat
/- Sum: what the purses of a mint hold, and what the mint says. -/
namespace Go.Proofs.YthaliljaglldjaaGreat
open Go.RowKit Go.Shelf Go.ChangeMaps Go.MapKept
attribute [local go_sem] Oper.semAt_some
def sumF (xs:List (Int × Th)):Int:=xs.foldl (fun s x=>s + min x.2.n (9007199254740992 - s)) 0
theorem sumF_snoc (xs:List (Int × Th)) (x:Int × Th):sumF (xs ++ [x]) = sumF xs + min x.2.n (9007199254740992 - sumF xs):=by simp [sumF]
theorem sumF_le:∀ (xs:List (Int × Th)),(∀ x ∈ xs,0 ≤ x.2.n)→0 ≤ sumF xs∧sumF xs ≤ 9007199254740992:=by
 have key:∀ (xs:List (Int × Th)) (s:Int),(∀ x ∈ xs,0 ≤ x.2.n)→0 ≤ s∧s ≤ 9007199254740992→0 ≤ xs.foldl (fun s x=>s + min x.2.n (9007199254740992 - s)) s∧xs.foldl (fun s x=>s + min x.2.n (9007199254740992 - s)) s ≤ 9007199254740992:=by
  intro xs
  induction xs with
  | nil=>intro s _ h;exact h
  | cons x xs ih =>
    intro s hx h
    refine ih _ (fun y hy=>hx y (by simp [hy])) ?_
    have:=hx x (by simp)
    show 0 ≤ s + min x.2.n (9007199254740992 - s)∧s + min x.2.n (9007199254740992 - s) ≤ 9007199254740992
    omega
 exact fun xs h=>key xs 0 h (by omega)
theorem row_slice {W:World} {base:Nat} {e:TypeId} {v:Value} {n:Nat} {xs:List Value} (h:W.ownsRow base e 1 v n xs) :
 ∃ a cap,v = .slice a n cap∧∀ k,k < n→∃ g,a = some ⟨g,0,none⟩∧W.cell? ⟨g,k,none⟩ = xs[k]?:=by
 rcases h.2 with ⟨rfl,h0⟩ | ⟨g,cap,cur,rfl,-⟩
 ·subst h0
  exact ⟨none,0,rfl,fun k hk=>by omega⟩
 ·exact ⟨_,cap,rfl,fun k hk=>⟨g,rfl,h.cellAt k (by omega)⟩⟩
set_option maxHeartbeats 4000000 in
set_option maxRecDepth 100000 in
theorem Sum_W {w:World} {p:Nat} {M:WM} {F:Nat→Prop} (hW:IsW w p M F) {r h N lo:Int} (hr:(Lit.int .i64 r).wf = true) (ht:M.at r = some (mintT h N lo))
 (hP:∀ x ∈ M.things,x.2.kind = 9→∃ h n m,x.2 = purseT h n m∧0 ≤ n) :
 Calls Tryz.prog 192 #[.pointer (some ⟨p,0,none⟩),.int .i64 r] w fun e w'=>e = .returned (.tuple #[.int .i64 (sumF (M.things.filter (isP r))),.int .i64 lo,.int .i64 N,.int .i64 0])∧Below w.heap.size w w':=by
 have HW:=(show Hid (IsW w p M F) from hW)
 have hps:=Purses_W hW hr ht (fun x hx hk=>by obtain ⟨a,b,c,d,-⟩:=hP x hx hk;exact ⟨a,b,c,d⟩)
 have HPS:=(show Hid _ from hps)
 have HQ:Hid (∀ w1,Below w.heap.size w w1→Calls Tryz.prog 137 #[.pointer (some ⟨p,0,none⟩),.int .i64 r] w1 fun e w'=>e = .returned (.tuple #[.agg #[.int .u8 8,.int .i64 h,.int .u8 0,.int .i64 0,.string ⟨#[]⟩,.slice none 0 0,.int .i64 0,.slice none 0 0,.int .i64 N,.int .i64 lo,.int .i64 0,.int .i64 0,.int .u8 0,.bool false,.slice none 0 0,.slice none 0 0],.int .i64 0])∧Below w1.heap.size w1 w'):=fun w1 hb=>What_lt (hW.below hb) hr ht plain0
 have HP:=(show Hid _ from hP)
 clear hps hW ht hP
 refine (callsIn_wide (n:=5)).1 ?_
 refine callsIn_of_wp Tryz.func192 rfl trivial ?_ rfl
 simp only [Tryz.ntmps192,List.size_toArray,List.length_cons,List.length_nil,Nat.reduceAdd,Nat.reduceSub,Array.replicate_succ,Array.replicate_zero,List.push_toArray,List.append_toArray,List.nil_append,List.cons_append]
 gi_wp2_with fail
 refine ⟨trivial,(callsIn_wide.2 HPS.out).mono ?_⟩
 rintro e w1 ⟨v,rfl,hrow,hb1⟩
 obtain ⟨a,cap,rfl,hcells⟩:=row_slice hrow
 generalize hL:M.things.filter (isP r) = L at *
 have HL:Hid (∀ x ∈ L,x ∈ M.things∧∃ h n m,x.2 = purseT h n m∧0 ≤ n):=by
  intro x hx
  rw [← hL] at hx
  obtain ⟨h1,h2⟩:=List.mem_filter.1 hx
  have h3:x.2.kind = 9:=by simp only [isP,Bool.and_eq_true,decide_eq_true_eq] at h2;exact h2.1
  exact ⟨h1,HP.out x h1 h3⟩
 have HN:Hid ((L.length:Int) ≤ 1099511627776):=by
  have h1:=HW.out.ok.len_le
  have h2:=HW.out.ok.last.2
  have h3:=List.length_filter_le (isP r) M.things
  rw [hL] at h3
  show _ ≤ _
  omega
 have HC:=(show Hid (∀ k,k < L.length→∃ g,a = some ⟨g,0,none⟩∧w1.cell? ⟨g,k,none⟩ = (L.map fun x=>Value.int .i64 x.1)[k]?) from hcells)
 have HB1:=(show Hid (Below w.heap.size w w1) from hb1)
 have HLe:=(show Hid (M.things.filter (isP r) = L) from hL)
 clear hrow hb1 hcells hL
 gi_wp2_with fail
 gi_loopw [4,26] (fun v4 vi wr=>∃ k:Nat,vi = .int .i64 k∧k ≤ L.length∧v4 = .int .i64 (sumF (L.take k))∧Hid (Below w1.heap.size w1 wr)) (fun _ vi _=>L.length - (intOf vi).toNat)
 case atStart=>exact ⟨0,rfl,Nat.zero_le _,rfl,Below.refl _ _⟩
 case round =>
  obtain ⟨k,rfl,hk,rfl,HBr⟩:=hrel
  by_cases hkm:k < L.length
  ·have hkz:(k:Int) < (L.length:Int):=by omega
   have hwk:wrap64 ((k:Int) + 1) = (k:Int) + 1:=by have:=HN.out;unfold wrap64;omega
   obtain ⟨x,hx⟩:∃ x,L[k]? = some x:=⟨_,List.getElem?_eq_getElem hkm⟩
   obtain ⟨hxm,h2,n2,m2,hx2,hn2⟩:=HL.out x (List.mem_of_getElem? hx)
   obtain ⟨g,rfl,hcell⟩:=HC.out k hkm
   have hs0:=sumF_le (L.take k) (fun y hy=>by obtain ⟨-,h',n',m',e,hn⟩:=HL.out y (List.mem_of_mem_take hy);rw [e];exact hn)
   have Htk:Hid (sumF (L.take (k + 1)) = sumF (L.take k) + min n2 (9007199254740992 - sumF (L.take k))):=by
    show _ = _
    rw [List.take_add_one,hx]
    show sumF (L.take k ++ [x]) = _
    rw [sumF_snoc,hx2]
   have hcx:wr.cell? ⟨g,k,none⟩ = some (.int .i64 x.1):=by
    rw [List.getElem?_map,hx] at hcell
    exact (HBr.out.cell (p:=⟨g,k,none⟩) (World.block_lt_of_cell? _ _ hcell)).trans hcell
   have hat:M.at x.1 = some (purseT h2 n2 m2):=by rw [HW.out.ok.at_of_mem hxm,hx2]
   have HG:Hid (∀ w2,Below w.heap.size w w2→Calls Tryz.prog 98 #[.pointer (some ⟨p,0,none⟩),.int .i64 x.1] w2 fun e w'=>e = .returned (.tuple #[.int .i64 n2,.int .i64 0])∧Below w2.heap.size w2 w') :=
    fun w2 hb=>Get_W (HW.out.below hb) (HW.out.ok.at_wf hat) hat
   generalize sumF (L.take k) = S at *
   have hw1:wrap64 (9007199254740992 - S) = 9007199254740992 - S:=by unfold wrap64;omega
   have hw2:wrap64 (S + min n2 (9007199254740992 - S)) = S + min n2 (9007199254740992 - S):=by unfold wrap64;omega
   clear hx hxm hx2 hcell hat
   gi_wp2_with fail
   refine ⟨trivial,(callsIn_wide.2 (HG.out wr (HB1.out.trans (HBr.out.mono HB1.out.size)))).mono ?_⟩
   rintro e w2 ⟨rfl,hb2⟩
   gi_wp2_with fail
   go_roundw
   case rel=>exact ⟨k + 1,by go_num,by omega,by rw [Htk.out],HBr.out.trans (hb2.mono HBr.out.size)⟩
   case measure=>rw [hwk];exact measure_down hkm
  ·have hkz:¬ (k:Int) < (L.length:Int):=by omega
   obtain rfl:k = L.length:=by omega
   gi_wp2_with fail
   have hbr:Below w.heap.size w wr:=HB1.out.trans (HBr.out.mono HB1.out.size)
   refine ⟨trivial,(callsIn_wide.2 (HQ.out wr hbr)).mono ?_⟩
   rintro e w2 ⟨rfl,hb2⟩
   obtain ⟨w3,hst,hb3,hg3,hs3⟩:=boxed_what' w2 #[.int .u8 8,.int .i64 h,.int .u8 0,.int .i64 0,.string ⟨#[]⟩,.slice none 0 0,.int .i64 0,.slice none 0 0,.int .i64 N,.int .i64 lo,.int .i64 0,.int .i64 0,.int .u8 0,.bool false,.slice none 0 0,.slice none 0 0] rfl (by simp [go_sem])
   have HB3:=(show Hid (Below w.heap.size w w3) from hbr.trans ((hb2.trans (hb3.mono hb2.size)).mono hbr.size))
   have c8:w3.cell? ⟨w2.heap.size,8,none⟩ = some (.int .i64 N):=by rw [cell_blk hg3];rfl
   have c9:w3.cell? ⟨w2.heap.size,9,none⟩ = some (.int .i64 lo):=by rw [cell_blk hg3];rfl
   clear hbr hb2 hb3 hg3 hs3
   gi_wp2_with fail
   gi_quiet (fail)
   gi_wp2_with fail
   refine bodyPost_ret (v:=.tuple #[.int .i64 (sumF L),.int .i64 lo,.int .i64 N,.int .i64 0]) (by simp [results,Tryz.f192,go_sem]) rfl ⟨by rw [HLe.out],HB3.out.trans ⟨rfl,rfl,rfl,Nat.le_refl _,fun _ _=>rfl⟩⟩
end Go.Proofs.YthaliljaglldjaaGreat
