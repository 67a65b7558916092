/- Part of the proof. -/
import Derived.Test.YthaliljaglldjaaGreatmAS
namespace Go.Proofs.YthaliljaglldjaaGreat
set_option maxHeartbeats 16000000
set_option maxRecDepth 20000
open Go.RowKit Go.ChangeMaps Go.MapKept
section
variable {w:World} {q:Nat} {M:WM} {G:Nat->Prop}
end
section
variable {w:World} {p:Nat} {M:WM} {F:Nat->Prop}
theorem What_0 (hW:IsW w p M F) {r:Int} (hr:(Lit.int .i64 r).wf=true) (ht:M.at r=none) :
 Calls Tryz.prog 137 #[.pointer (some ⟨p,0,none⟩),.int .i64 r] w fun e w'=>e=.returned (.tuple #[.agg (wr 0 0 0 0 0 0 0 0 0 false),.int .i64 5])/\Bl w w':=by
 have HW:Hid (IsW w p M F):=hW;have HIs:Hid ((M.at r).isSome=false):=by show _=_;rw [ht];rfl
 clear hW ht
 go_enter Tryz.func137,Tryz.ntmps137
 go_wp2_with fail
 refine(none_W (HW.out.below ((Below.refl _ _).alloc (Nat.le_refl _) _))).mono ?_;rintro e _ ⟨rfl,rfl⟩
 go_wp2_with fail
 refine(Is_W (HW.out.below ((Below.refl _ _).alloc (Nat.le_refl _) _)) hr).mono ?_;rw [HIs.out];rintro e _ ⟨rfl,rfl⟩;have B1:=blk_new w (.cells (wr 0 0 0 0 0 0 0 0 0 false) 46);have HB1:Hid (Bl w (w.alloc (.cells (wr 0 0 0 0 0 0 0 0 0 false) 46))):=(Below.refl _ _).alloc (Nat.le_refl _) _;have hst:=storeWhat_blk (c':=(wr 0 0 0 0 0 0 0 0 0 false)) B1 rfl rfl (by simp [go_sem]);have G1:=(show Hid _ from heap_setRow_at (c':=(wr 0 0 0 0 0 0 0 0 0 false)) B1);clear B1
 go_wp2_with fail
 exact bodyPost_ret (results_What2 rfl _ _ _ _ _ rfl G1.out rfl) rfl ⟨rfl,Below.setRow HB1.out (Nat.le_refl _) _⟩
end
section
variable {w:World} {q:Nat} {M:WM} {G:Nat->Prop}
def MadeLR (w:World) (q:Nat) (M:WM) (G:Nat->Prop) (h:Int) (t:Th) (e:Ending) (w':World):Prop :=
 (M.made.getD h.toNat 0<512/\e=.returned (.tuple #[.int .i64 (M.last+1),.int .i64 0])/\∃ G',IsR w' q (M.add t) G'/\Grew G w G' w') \/
 (¬ M.made.getD h.toNat 0<512/\e=.returned (.tuple #[.int .i64 0,.int .i64 8])/\Bl w w')
theorem MakeR.light {k h n l tg bi s:Int} {fu:Bool} {e:Ending} {w':World} (hm:MakeR w q M G (lt k h 0 0 n l tg bi s fu) 0 e w'):MadeLR w q M G h (lt k h 0 0 n l tg bi s fu) e w':=by
 rcases hm with ⟨h0,-⟩ | ⟨-,h1,h2,h3⟩ | ⟨-,h1,h2,vl,vals,G',h3,h4,h5,h6,h7⟩
 ·exact absurd rfl h0
 ·exact .inr ⟨h1,h2,h3⟩
 ·have e1:=h6 rfl;have e2:=h7 rfl;subst e1 e2;exact .inl ⟨h1,h2,G',h3,h4,h5⟩
theorem rMake_lt (hR:IsR w q M G) (hN:RGood M) {k h n l tg:Int} (hk:0≤k/\k≤255) (hks:k≠6/\k≠7/\k≠9/\k≠11/\k≠13/\k≠14/\k≠15/\k≠16) (hh:0≤h/\h<M.made.length)
 (hform:∀ w',Bl w w'->Calls Tryz.prog 81 #[.agg (thc (lt k h 0 0 n l tg 0 0 false)),.int .i64 M.made.length] w' fun e w''=>e=.returned (.bool true)/\Bl w' w'') :
 Calls Tryz.prog 15 #[.pointer (some ⟨q,0,none⟩),.agg (thc (lt k h 0 0 n l tg 0 0 false))] w (MadeLR w q M G h (lt k h 0 0 n l tg 0 0 false)) :=
 (make7_W (F:=fun _=>False) hR hN.ok.len hN.last hN.mades (lt k h 0 0 n l tg 0 0 false) (SlAt.nil _ _ _ _) (SlAt.nil _ _ _ _) rfl rfl (depV_may (by rfl)) (fun x hx=>by cases hx) (Nat.zero_le _) (fun b h=>h.elim) hh hk ⟨hks.2.2.2.2.1,hks.2.2.2.2.2.1,hks.2.2.2.2.2.2.1⟩ 0 hform fun w' hb =>
  asked7_0 (hR.below hb) hN.ok (lt k h 0 0 n l tg 0 0 false) 0 hk hks [] (Nat.zero_le _) (fun w2 hb2=>refs7_lt w2 k h n l tg 0 0 false) fun x hx=>by cases hx).mono fun e w' h=>h.light
end
end Go.Proofs.YthaliljaglldjaaGreat
