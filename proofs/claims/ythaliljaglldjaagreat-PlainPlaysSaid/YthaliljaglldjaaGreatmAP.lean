/- Part of the proof. -/
import Derived.Test.YthaliljaglldjaaGreatmAN
namespace Go.Proofs.YthaliljaglldjaaGreat
set_option maxHeartbeats 16000000
set_option maxRecDepth 20000
open Go.RowKit Go.ChangeMaps Go.MapKept
section
variable {w:World} {p:Nat} {M:WM} {F:Nat->Prop}
theorem xf (hW:IsW w p M F) (h:Int) (hs:be M h=true):Calls Tryz.prog 74 #[P_ p,.agg (wr 2 h 0 0 0 0 0 0 0 false)] w fun e w'=>e=.returned (.bool true)/\Below w.heap.size w w':=by
 have hV:∀ w:World,Calls Tryz.prog 161 #[.agg O] w fun e w'=>e=.returned (.bool true)/\Below w.heap.size w w':=fun w=>eb w 0 0 (.inl ⟨rfl,rfl⟩)
 go_enter Tryz.func74,Tryz.ntmps74
 go_wp2_with fail
 refine(tY _ h 0 0 0 0 0 0 0 0 ⟨#[]⟩ false none none none none 0 0 0 0 0 0 0 0).mono ?_;rintro e w1 ⟨rfl,hb1⟩;have B1:=ae hb1 (ai _ _);have aa:=aq B1;have hz1:w.heap.size<w1.heap.size:=by have:=hb1.size;simp at this;omega
 have HB1:Hid (Below w.heap.size w w1):=(br.alloc aH _).trans (hb1.mono (by simp;try omega));clear hb1
 go_wp2_with fail
 refine(bE _).mono ?_;rintro e w2 ⟨rfl,hb2⟩;have B2:=ae hb2 (aG _ _ B1);clear aa;have aa:=aq B2;have hz2:w.heap.size<w2.heap.size:=by have:=hb2.size;simp at this;omega
 have HB2:Hid (Below w.heap.size w w2):=(HB1.out.alloc (by first | omega | (simp;try omega)) _).trans (hb2.mono (by first | omega | (simp;try omega)));clear hb2 B1 HB1 hz1
 go_wp2_with fail
 refine(bE _).mono ?_;rintro e w3 ⟨rfl,hb3⟩;have B3:=ae hb3 B2;clear aa;have aa:=aq B3;have hz3:w.heap.size<w3.heap.size:=by have:=hb3.size;omega
 have HB3:Hid (Below w.heap.size w w3):=HB2.out.trans (hb3.mono (by first | omega | (simp;try omega)));clear hb3 B2 HB2 hz2
 go_wp2_with fail
 refine(cJ (hW.below HB3.out) h).mono ?_;rw [hs];rintro e _ ⟨rfl,rfl⟩
 go_wp2_with fail
 refine(hV _).mono ?_;rintro e w4 ⟨rfl,hb4⟩;have B4:=ae hb4 B3;clear aa;have aa:=aq B4;have hz4:w.heap.size<w4.heap.size:=by have:=hb4.size;omega
 have HB4:Hid (Below w.heap.size w w4):=HB3.out.trans (hb4.mono (by first | omega | (simp;try omega)));clear hb4 B3 HB3 hz3
 go_wp2_with fail
 refine(jc _).mono ?_;rintro e w5 ⟨rfl,hb5⟩;have B5:=ae hb5 B4;clear aa;have aa:=aq B5;have hz5:w.heap.size<w5.heap.size:=by have:=hb5.size;omega
 have HB5:Hid (Below w.heap.size w w5):=HB4.out.trans (hb5.mono (by first | omega | (simp;try omega)));clear hb5 B4 HB4 hz4
 go_wp2_with fail
 go_rounds 1
 have hB:=HB5.out;have hZ:w.heap.size≤w5.heap.size:=by omega
 go_ret
 exact⟨rfl,by go_grown⟩
theorem yd (hW:IsW w p M F) (h:Int) (hs:be M h=true):Calls Tryz.prog 74 #[P_ p,.agg (wr 4 h 0 0 0 0 0 0 0 false)] w fun e w'=>e=.returned (.bool true)/\Below w.heap.size w w':=by
 have hV:∀ w:World,Calls Tryz.prog 161 #[.agg O] w fun e w'=>e=.returned (.bool true)/\Below w.heap.size w w':=fun w=>eb w 0 0 (.inl ⟨rfl,rfl⟩)
 go_enter Tryz.func74,Tryz.ntmps74
 go_wp2_with fail
 refine(tM _ h 0 0 0 0 0 0 0 0 ⟨#[]⟩ false none none none none 0 0 0 0 0 0 0 0).mono ?_;rintro e w1 ⟨rfl,hb1⟩;have B1:=ae hb1 (ai _ _);have aa:=aq B1;have hz1:w.heap.size<w1.heap.size:=by have:=hb1.size;simp at this;omega
 have HB1:Hid (Below w.heap.size w w1):=(br.alloc aH _).trans (hb1.mono (by simp;try omega));clear hb1
 go_wp2_with fail
 refine(bE _).mono ?_;rintro e w2 ⟨rfl,hb2⟩;have B2:=ae hb2 (aG _ _ B1);clear aa;have aa:=aq B2;have hz2:w.heap.size<w2.heap.size:=by have:=hb2.size;simp at this;omega
 have HB2:Hid (Below w.heap.size w w2):=(HB1.out.alloc (by first | omega | (simp;try omega)) _).trans (hb2.mono (by first | omega | (simp;try omega)));clear hb2 B1 HB1 hz1
 go_wp2_with fail
 refine(bE _).mono ?_;rintro e w3 ⟨rfl,hb3⟩;have B3:=ae hb3 B2;clear aa;have aa:=aq B3;have hz3:w.heap.size<w3.heap.size:=by have:=hb3.size;omega
 have HB3:Hid (Below w.heap.size w w3):=HB2.out.trans (hb3.mono (by first | omega | (simp;try omega)));clear hb3 B2 HB2 hz2
 go_wp2_with fail
 refine(cJ (hW.below HB3.out) h).mono ?_;rw [hs];rintro e _ ⟨rfl,rfl⟩
 go_wp2_with fail
 refine(hV _).mono ?_;rintro e w4 ⟨rfl,hb4⟩;have B4:=ae hb4 B3;clear aa;have aa:=aq B4;have hz4:w.heap.size<w4.heap.size:=by have:=hb4.size;omega
 have HB4:Hid (Below w.heap.size w w4):=HB3.out.trans (hb4.mono (by first | omega | (simp;try omega)));clear hb4 B3 HB3 hz3
 go_wp2_with fail
 refine(jc _).mono ?_;rintro e w5 ⟨rfl,hb5⟩;have B5:=ae hb5 B4;clear aa;have aa:=aq B5;have hz5:w.heap.size<w5.heap.size:=by have:=hb5.size;omega
 have HB5:Hid (Below w.heap.size w w5):=HB4.out.trans (hb5.mono (by first | omega | (simp;try omega)));clear hb5 B4 HB4 hz4
 go_wp2_with fail
 go_rounds 1
 have hB:=HB5.out;have hZ:w.heap.size≤w5.heap.size:=by omega
 go_ret
 exact⟨rfl,by go_grown⟩
end
section
variable {w:World} {p:Nat} {M:WM} {F:Nat->Prop}
theorem tW (hW:IsW w p M F) (h n:Int) (hs:be M h=true) (hn:0≤n/\n≤9007199254740992):Calls Tryz.prog 74 #[P_ p,.agg (wr 3 h 0 0 n 0 0 0 0 false)] w fun e w'=>e=.returned (.bool true)/\Below w.heap.size w w':=by
 have hV:∀ w:World,Calls Tryz.prog 161 #[.agg O] w fun e w'=>e=.returned (.bool true)/\Below w.heap.size w w':=fun w=>eb w 0 0 (.inl ⟨rfl,rfl⟩)
 go_enter Tryz.func74,Tryz.ntmps74
 go_wp2_with fail
 refine(ye _ h 0 0 n 0 0 0 0 0 ⟨#[]⟩ false none none none none 0 0 0 0 0 0 0 0).mono ?_;rintro e w1 ⟨rfl,hb1⟩;have B1:=ae hb1 (ai _ _);have aa:=aq B1;have hz1:w.heap.size<w1.heap.size:=by have:=hb1.size;simp at this;omega
 have HB1:Hid (Below w.heap.size w w1):=(br.alloc aH _).trans (hb1.mono (by simp;try omega));clear hb1
 go_wp2_with fail
 refine(bE _).mono ?_;rintro e w2 ⟨rfl,hb2⟩;have B2:=ae hb2 (aG _ _ B1);clear aa;have aa:=aq B2;have hz2:w.heap.size<w2.heap.size:=by have:=hb2.size;simp at this;omega
 have HB2:Hid (Below w.heap.size w w2):=(HB1.out.alloc (by first | omega | (simp;try omega)) _).trans (hb2.mono (by first | omega | (simp;try omega)));clear hb2 B1 HB1 hz1
 go_wp2_with fail
 refine(bE _).mono ?_;rintro e w3 ⟨rfl,hb3⟩;have B3:=ae hb3 B2;clear aa;have aa:=aq B3;have hz3:w.heap.size<w3.heap.size:=by have:=hb3.size;omega
 have HB3:Hid (Below w.heap.size w w3):=HB2.out.trans (hb3.mono (by first | omega | (simp;try omega)));clear hb3 B2 HB2 hz2
 go_wp2_with fail
 refine(cJ (hW.below HB3.out) h).mono ?_;rw [hs];rintro e _ ⟨rfl,rfl⟩
 go_wp2_with fail
 refine(hV _).mono ?_;rintro e w4 ⟨rfl,hb4⟩;have B4:=ae hb4 B3;clear aa;have aa:=aq B4;have hz4:w.heap.size<w4.heap.size:=by have:=hb4.size;omega
 have HB4:Hid (Below w.heap.size w w4):=HB3.out.trans (hb4.mono (by first | omega | (simp;try omega)));clear hb4 B3 HB3 hz3
 go_wp2_with fail
 refine(jc _).mono ?_;rintro e w5 ⟨rfl,hb5⟩;have B5:=ae hb5 B4;clear aa;have aa:=aq B5;have hz5:w.heap.size<w5.heap.size:=by have:=hb5.size;omega
 have HB5:Hid (Below w.heap.size w w5):=HB4.out.trans (hb5.mono (by first | omega | (simp;try omega)));clear hb5 B4 HB4 hz4
 go_wp2_with fail
 go_rounds 1
 have hB:=HB5.out;have hZ:w.heap.size≤w5.heap.size:=by omega
 go_ret
 exact⟨rfl,by go_grown⟩
theorem yK (hW:IsW w p M F) (h n l:Int) (hs:be M h=true) (hn:0≤n/\n≤9007199254740992) (hl:0≤l/\l≤n):Calls Tryz.prog 74 #[P_ p,.agg (wr 8 h 0 0 n l 0 0 0 false)] w fun e w'=>e=.returned (.bool true)/\Below w.heap.size w w':=by
 have hV:∀ w:World,Calls Tryz.prog 161 #[.agg O] w fun e w'=>e=.returned (.bool true)/\Below w.heap.size w w':=fun w=>eb w 0 0 (.inl ⟨rfl,rfl⟩)
 go_enter Tryz.func74,Tryz.ntmps74
 go_wp2_with fail
 refine(xF _ h 0 0 n l 0 0 0 0 ⟨#[]⟩ false none none none none 0 0 0 0 0 0 0 0).mono ?_;rintro e w1 ⟨rfl,hb1⟩;have B1:=ae hb1 (ai _ _);have aa:=aq B1;have hz1:w.heap.size<w1.heap.size:=by have:=hb1.size;simp at this;omega
 have HB1:Hid (Below w.heap.size w w1):=(br.alloc aH _).trans (hb1.mono (by simp;try omega));clear hb1
 go_wp2_with fail
 refine(bE _).mono ?_;rintro e w2 ⟨rfl,hb2⟩;have B2:=ae hb2 (aG _ _ B1);clear aa;have aa:=aq B2;have hz2:w.heap.size<w2.heap.size:=by have:=hb2.size;simp at this;omega
 have HB2:Hid (Below w.heap.size w w2):=(HB1.out.alloc (by first | omega | (simp;try omega)) _).trans (hb2.mono (by first | omega | (simp;try omega)));clear hb2 B1 HB1 hz1
 go_wp2_with fail
 refine(bE _).mono ?_;rintro e w3 ⟨rfl,hb3⟩;have B3:=ae hb3 B2;clear aa;have aa:=aq B3;have hz3:w.heap.size<w3.heap.size:=by have:=hb3.size;omega
 have HB3:Hid (Below w.heap.size w w3):=HB2.out.trans (hb3.mono (by first | omega | (simp;try omega)));clear hb3 B2 HB2 hz2
 go_wp2_with fail
 refine(cJ (hW.below HB3.out) h).mono ?_;rw [hs];rintro e _ ⟨rfl,rfl⟩
 go_wp2_with fail
 refine(hV _).mono ?_;rintro e w4 ⟨rfl,hb4⟩;have B4:=ae hb4 B3;clear aa;have aa:=aq B4;have hz4:w.heap.size<w4.heap.size:=by have:=hb4.size;omega
 have HB4:Hid (Below w.heap.size w w4):=HB3.out.trans (hb4.mono (by first | omega | (simp;try omega)));clear hb4 B3 HB3 hz3
 go_wp2_with fail
 refine(jc _).mono ?_;rintro e w5 ⟨rfl,hb5⟩;have B5:=ae hb5 B4;clear aa;have aa:=aq B5;have hz5:w.heap.size<w5.heap.size:=by have:=hb5.size;omega
 have HB5:Hid (Below w.heap.size w w5):=HB4.out.trans (hb5.mono (by first | omega | (simp;try omega)));clear hb5 B4 HB4 hz4
 go_wp2_with fail
 go_rounds 1
 have hB:=HB5.out;have hZ:w.heap.size≤w5.heap.size:=by omega
 go_ret
 exact⟨rfl,by go_grown⟩
theorem sK (hW:IsW w p M F) (h:Int) (hs:be M h=true):Calls Tryz.prog 74 #[P_ p,.agg (wr 10 h 0 0 0 0 0 0 0 false)] w fun e w'=>e=.returned (.bool true)/\Below w.heap.size w w':=by
 have hV:∀ w:World,Calls Tryz.prog 161 #[.agg O] w fun e w'=>e=.returned (.bool true)/\Below w.heap.size w w':=fun w=>eb w 0 0 (.inl ⟨rfl,rfl⟩)
 go_enter Tryz.func74,Tryz.ntmps74
 go_wp2_with fail
 refine(lr _ h 0 0 0 0 0 0 0 0 ⟨#[]⟩ false none none none none 0 0 0 0 0 0 0 0).mono ?_;rintro e w1 ⟨rfl,hb1⟩;have B1:=ae hb1 (ai _ _);have aa:=aq B1;have hz1:w.heap.size<w1.heap.size:=by have:=hb1.size;simp at this;omega
 have HB1:Hid (Below w.heap.size w w1):=(br.alloc aH _).trans (hb1.mono (by simp;try omega));clear hb1
 go_wp2_with fail
 refine(bE _).mono ?_;rintro e w2 ⟨rfl,hb2⟩;have B2:=ae hb2 (aG _ _ B1);clear aa;have aa:=aq B2;have hz2:w.heap.size<w2.heap.size:=by have:=hb2.size;simp at this;omega
 have HB2:Hid (Below w.heap.size w w2):=(HB1.out.alloc (by first | omega | (simp;try omega)) _).trans (hb2.mono (by first | omega | (simp;try omega)));clear hb2 B1 HB1 hz1
 go_wp2_with fail
 refine(bE _).mono ?_;rintro e w3 ⟨rfl,hb3⟩;have B3:=ae hb3 B2;clear aa;have aa:=aq B3;have hz3:w.heap.size<w3.heap.size:=by have:=hb3.size;omega
 have HB3:Hid (Below w.heap.size w w3):=HB2.out.trans (hb3.mono (by first | omega | (simp;try omega)));clear hb3 B2 HB2 hz2
 go_wp2_with fail
 refine(cJ (hW.below HB3.out) h).mono ?_;rw [hs];rintro e _ ⟨rfl,rfl⟩
 go_wp2_with fail
 refine(hV _).mono ?_;rintro e w4 ⟨rfl,hb4⟩;have B4:=ae hb4 B3;clear aa;have aa:=aq B4;have hz4:w.heap.size<w4.heap.size:=by have:=hb4.size;omega
 have HB4:Hid (Below w.heap.size w w4):=HB3.out.trans (hb4.mono (by first | omega | (simp;try omega)));clear hb4 B3 HB3 hz3
 go_wp2_with fail
 refine(jc _).mono ?_;rintro e w5 ⟨rfl,hb5⟩;have B5:=ae hb5 B4;clear aa;have aa:=aq B5;have hz5:w.heap.size<w5.heap.size:=by have:=hb5.size;omega
 have HB5:Hid (Below w.heap.size w w5):=HB4.out.trans (hb5.mono (by first | omega | (simp;try omega)));clear hb5 B4 HB4 hz4
 go_wp2_with fail
 go_rounds 1
 have hB:=HB5.out;have hZ:w.heap.size≤w5.heap.size:=by omega
 go_ret
 exact⟨rfl,by go_grown⟩
end
end Go.Proofs.YthaliljaglldjaaGreat
