/- Faults: the fault of a number; errors.As, errors.Is of it. -/
import Derived.Test.YtifmifjbebpomaaGreatDoorBase
import Derived.Test.YtifmifjbebpomaaGreatDoorChecked
import Derived.LaidEql
import Derived.Stop.Asserts
import Derived.RowKitTokens
import Derived.Deep.WholeRow
namespace Go.Proofs.YtifmifjbebpomaaGreatDoor
open Go.RowKit Go.Extern.Stop Go.Stop Go.Extern

theorem blk_new' (w : World) (o : Obj) {g : Nat} (h : g = w.heap.size) : (w.alloc o).heap[g]? = some o := by rw [h]; exact blk_new w o
/-- Block g is a fault of the number c, with nothing under it. -/
def FaultAt (w : World) (g : Nat) (c : Int) : Prop := w.heap[g]? = some (.cells #[.int .i64 c, .slice none 0 0, .slice none 0 0] 261 (0, 0))
theorem FaultAt.below {w w' : World} {g : Nat} {c : Int} (h : FaultAt w g c) (hb : Below w.heap.size w w') : FaultAt w' g c := (hb.block g (blk_lt h)).trans h

theorem fcount_leaf (c : Int) (hc : 1 ≤ c) (w : World) : Calls Tryz.prog 160 #[.agg #[.int .i64 c, .slice none 0 0], .int .i64 256, .int .i64 32] w fun e w' => e = .returned (.int .i64 1) ∧ Below w.heap.size w w' := by
  have h1 : ¬ c < 1 := by omega
  go_enter Tryz.func160, Tryz.ntmps160
  go_wp2
  refine wp_loop_rounds 1 ?_
  rw [rounds_succ]
  go_wp2
  go_ret
  exact ⟨rfl, (Below.refl _ _).alloc (Nat.le_refl _) _⟩
theorem fMay_leaf (c : Int) (hc : 1 ≤ c) (w : World) : Calls Tryz.prog 134 #[.agg #[.int .i64 c, .slice none 0 0]] w fun e w' => e = .returned (.bool true) ∧ Below w.heap.size w w' := by
  have hn := fun W => fcount_leaf c hc W
  go_enter Tryz.func134, Tryz.ntmps134
  go_wp2_with fail
  refine (hn _).mono ?_
  rintro e w1 ⟨rfl, hb⟩
  go_wp2_with fail
  go_ret
  exact ⟨rfl, ((Below.refl _ _).alloc (Nat.le_refl _) _).trans (hb.mono (by simp))⟩
theorem fown_leaf (c : Int) (w : World) : Calls Tryz.prog 136 #[.agg #[.int .i64 c, .slice none 0 0]] w fun e w' => e = .returned (.agg #[.int .i64 c, .slice none 0 0]) ∧ Below w.heap.size w w' := by
  go_enter Tryz.func136, Tryz.ntmps136
  go_wp2
  refine wp_loop_rounds 1 ?_
  rw [rounds_succ]
  go_wp2
  exact ⟨rfl, _, results_cell_row (P := Tryz.prog) rfl _ _ (w.heap.size + 1) 202 #[.int .i64 c, .slice none 0 0] (0, 0) _ rfl (blk_new' _ _ (by simp)) Tryz.underlying202 rfl (by kernel_rfl), rfl, ((Below.refl _ _).alloc (Nat.le_refl _) _).alloc (by simp) _⟩
theorem fof_leaf (c : Int) (w : World) : Calls Tryz.prog 135 #[.agg #[.int .i64 c, .slice none 0 0]] w fun e w' => ∃ g, e = .returned (.pointer (some ⟨g, 0, none⟩)) ∧ FaultAt w' g c ∧ w.heap.size ≤ g ∧ Below w.heap.size w w' := by
  go_enter Tryz.func135, Tryz.ntmps135
  go_wp2
  refine wp_loop_rounds 1 ?_
  rw [rounds_succ]
  go_wp2
  go_ret
  exact ⟨_, rfl, blk_new' _ _ (by simp), by simp, ((Below.refl _ _).alloc (Nat.le_refl _) _).alloc (by simp) _⟩
theorem fUnwrap_leaf {w : World} {g : Nat} {c : Int} (h : FaultAt w g c) : Calls Tryz.prog 236 #[.pointer (some ⟨g, 0, none⟩)] w fun e w' => ∃ b, e = .returned (.slice (some ⟨b, 0, none⟩) 1 1) ∧ w'.cell? ⟨b, 0, none⟩ = some (.iface 40 (.int .i64 c)) ∧ Below w.heap.size w w' := by
  have c0 : w.cell? ⟨g, 0, none⟩ = some (.int .i64 c) := by rw [cell_blk h]; rfl
  have c2 : w.cell? ⟨g, 2, none⟩ = some (.slice none 0 0) := by rw [cell_blk h]; rfl
  have c2a : ∀ o, (w.alloc o).cell? ⟨g, 2, none⟩ = some (.slice none 0 0) := fun o => by rw [World.cell?_alloc_lt _ _ _ (World.block_lt_of_cell? _ _ c2)]; exact c2
  go_enter Tryz.func236, Tryz.ntmps236
  go_wp2
  go_region
  go_wp2_with fail
  go_ret
  exact ⟨_, rfl, by rw [cell_blk (fr := (0, 0)) (show (w.alloc _).drew.heap[w.heap.size]? = _ from blk_new w _)]; rfl, ((Below.refl _ _).alloc (Nat.le_refl _) _).drew⟩
theorem fCode_leaf {w : World} {g : Nat} {c : Int} (h : FaultAt w g c) : Calls Tryz.prog 234 #[.pointer (some ⟨g, 0, none⟩)] w fun e w' => e = .returned (.int .i64 c) ∧ w = w' := by
  have c0 : w.cell? ⟨g, 0, none⟩ = some (.int .i64 c) := by rw [cell_blk h]; rfl
  go_enter Tryz.func234, Tryz.ntmps234
  go_wp2
  go_ret
  exact ⟨rfl, rfl⟩
theorem fOf_leaf (c : Int) (hc : 1 ≤ c) (w : World) : Calls Tryz.prog 104 #[.agg #[.int .i64 c, .slice none 0 0]] w fun e w' => ∃ g, e = .returned (.tuple #[.iface 235 (.pointer (some ⟨g, 0, none⟩)), .int .i64 0]) ∧ FaultAt w' g c ∧ w.heap.size ≤ g ∧ Below w.heap.size w w' := by
  have h1 := fun W => fMay_leaf c hc W
  have h2 := fun W => fown_leaf c W
  have h3 := fun W => fof_leaf c W
  go_enter Tryz.func104, Tryz.ntmps104
  go_wp2_with fail
  refine (h1 _).mono ?_
  rintro e w1 ⟨rfl, hb1⟩
  have c0 : w1.cell? ⟨w.heap.size, 0, none⟩ = some (.int .i64 c) := by rw [cell_blk ((hb1.block _ (by simp)).trans (blk_new w _))]; rfl
  have c1 : w1.cell? ⟨w.heap.size, 1, none⟩ = some (.slice none 0 0) := by rw [cell_blk ((hb1.block _ (by simp)).trans (blk_new w _))]; rfl
  have HB1 : Hid (Below w.heap.size w w1) := ((Below.refl _ _).alloc (Nat.le_refl _) _).trans (hb1.mono (by simp))
  clear hb1
  go_wp2_with fail
  refine (h2 _).mono ?_
  rintro e w2 ⟨rfl, hb2⟩
  have HB2 : Hid (Below w.heap.size w w2) := HB1.out.trans (hb2.mono HB1.out.size)
  clear hb2
  go_wp2_with fail
  refine (h3 _).mono ?_
  rintro e w3 ⟨g, rfl, hg, hgs, hb3⟩
  have HB3 : Hid (Below w.heap.size w w3 ∧ FaultAt w3 g c ∧ w.heap.size ≤ g) := ⟨HB2.out.trans (hb3.mono HB2.out.size), hg, Nat.le_trans HB2.out.size hgs⟩
  clear hb3 hg hgs
  go_wp2_with fail
  go_ret2
  exact ⟨g, rfl, HB3.out.2.1, HB3.out.2.2, HB3.out.1⟩
theorem acOf_W (c : Int) (hc : 1 ≤ c) (w : World) : Calls Tryz.prog 60 #[.int .i64 c] w fun e w' => ∃ g, e = .returned (.iface 235 (.pointer (some ⟨g, 0, none⟩))) ∧ FaultAt w' g c ∧ w.heap.size ≤ g ∧ Below w.heap.size w w' := by
  have h1 := fun W => fOf_leaf c hc W
  have h0 : (c == 0) = false := by simp; omega
  go_enter Tryz.func60, Tryz.ntmps60
  go_wp2_with fail
  refine (h1 _).mono ?_
  rintro e w1 ⟨g, rfl, hg, hgs, hb⟩
  have H := (show Hid (FaultAt w1 g c ∧ w.heap.size ≤ g ∧ Below w.heap.size w w1) from ⟨hg, hgs, hb⟩)
  clear hg hgs hb
  go_wp2_with fail
  go_ret
  exact ⟨g, rfl, H.out⟩

/-! ### errors.As at *api.Fault: closed facts on the model's entries -/
theorem Tryz.valueOfPF (t : Addr) (w : World) : (ReflectliteValue.unpack (.iface 89 (.pointer (some t)))).run Tryz.prog w
    = .ok (.agg #[.pointer (some ⟨3, 89, none⟩), .pointer (some ⟨w.heap.size, 0, none⟩), .int .u64 150]) (w.alloc (.cells #[.pointer (some t)] 89)) := by kernel_rfl
theorem Tryz.typePF (a : Addr) (w : World) : (ReflectliteValue.methodAny (ReflectliteValue.valueError "reflectlite.Value.Type" 0) (fun t _ _ _ => ReflectliteType.toType t) #[.agg #[.pointer (some ⟨3, 89, none⟩), .pointer (some a), .int .u64 150]]).run Tryz.prog w
    = .ok (.iface 164 (.agg #[.pointer (some ⟨3, 89, none⟩)])) w := by kernel_rfl
theorem Tryz.methodKind (h : Value) (w : World) : (Go.method 450 164 (.agg #[h]) "Kind").run Tryz.prog w = .ok (215, h) w := by kernel_rfl
theorem Tryz.kindPF (w : World) : ((ReflectliteType.abiMethod fun t => (fun a : Nat => Value.int IntKind.u8 (a : Int)) <$> Rtype.kind t) #[.pointer (some ⟨3, 89, none⟩)]).run Tryz.prog w = .ok (.int .u8 22) w := by kernel_rfl
theorem Tryz.kindF (w : World) : ((ReflectliteType.abiMethod fun t => (fun a : Nat => Value.int IntKind.u8 (a : Int)) <$> Rtype.kind t) #[.pointer (some ⟨3, 87, none⟩)]).run Tryz.prog w = .ok (.int .u8 20) w := by kernel_rfl
theorem rlmW (z : Sem Value) (f : TypeId → Addr → Nat → Nat → Sem Value) (v : Value) :
    ReflectliteValue.method z f #[v] = (do match ← ReflectliteValue.parts v with | none => z | some (t, a, fl) => f t a fl (fl % 32)) := rfl
theorem Tryz.partsPF (a : Addr) (w : World) : (ReflectliteValue.parts (.agg #[.pointer (some ⟨3, 89, none⟩), .pointer (some a), .int .u64 150])).run Tryz.prog w = .ok (some (89, a, 150)) w := by kernel_rfl
theorem Tryz.isNilPF (a p : Addr) (W : World) (ha : W.cell? a = some (.pointer (some p))) :
    (ReflectliteValue.method (ReflectliteValue.valueError "reflectlite.Value.IsNil" 0) ReflectliteValue.isNil #[.agg #[.pointer (some ⟨3, 89, none⟩), .pointer (some a), .int .u64 150]]).run Tryz.prog W = .ok (.bool false) W := by
  rw [rlmW]
  simp only [Sem.run_bind, Tryz.partsPF, Result.andThen]
  simp [ReflectliteValue.isNil, loadVar, isAgg, underlying, Tryz.underlying89, ha, Result.andThen]
theorem Tryz.methodElem (h : Value) (w : World) : (Go.method 450 164 (.agg #[h]) "Elem").run Tryz.prog w = .ok (226, .agg #[h]) w := by kernel_rfl
theorem Tryz.methodAssignableTo (h : Value) (w : World) : (Go.method 450 164 (.agg #[h]) "AssignableTo").run Tryz.prog w = .ok (224, .agg #[h]) w := by kernel_rfl
theorem Tryz.elemPF (w : World) : (ReflectliteType.method ReflectliteType.elem #[.agg #[.pointer (some ⟨3, 89, none⟩)]]).run Tryz.prog w = .ok (.iface 164 (.agg #[.pointer (some ⟨3, 87, none⟩)])) w := by kernel_rfl
theorem Tryz.typeOfPt (v : Value) (w : World) : (ReflectliteType.typeOf #[.iface 235 v]).run Tryz.prog w = .ok (.iface 164 (.agg #[.pointer (some ⟨3, 235, none⟩)])) w := by kernel_rfl
theorem Tryz.assignPt (w : World) : (ReflectliteType.relation "AssignableTo" ReflectliteType.assignableTo #[.agg #[.pointer (some ⟨3, 235, none⟩)], .iface 164 (.agg #[.pointer (some ⟨3, 87, none⟩)])]).run Tryz.prog w = .ok (.bool true) w := by kernel_rfl
theorem Tryz.valueOfPt (e : Addr) (w : World) : (ReflectliteValue.unpack (.iface 235 (.pointer (some e)))).run Tryz.prog w
    = .ok (.agg #[.pointer (some ⟨3, 235, none⟩), .pointer (some ⟨w.heap.size, 0, none⟩), .int .u64 150]) (w.alloc (.cells #[.pointer (some e)] 235)) := by kernel_rfl
theorem Tryz.elemOfPF (w : World) : (Rtype.elem? 89).run Tryz.prog w = .ok (some 87) w := by kernel_rfl
theorem Tryz.mkF (p : Addr) (w : World) : (ReflectliteValue.mk 87 p ReflectliteValue.flagAddr).run Tryz.prog w = .ok (.agg #[.pointer (some ⟨3, 87, none⟩), .pointer (some p), .int .u64 404]) w := by kernel_rfl
theorem Tryz.elemVPF (a p : Addr) (W : World) (ha : W.cell? a = some (.pointer (some p))) :
    (ReflectliteValue.method (ReflectliteValue.valueError "reflectlite.Value.Elem" 0) ReflectliteValue.elem #[.agg #[.pointer (some ⟨3, 89, none⟩), .pointer (some a), .int .u64 150]]).run Tryz.prog W
      = .ok (.agg #[.pointer (some ⟨3, 87, none⟩), .pointer (some p), .int .u64 404]) W := by
  rw [rlmW]
  simp only [Sem.run_bind, Tryz.partsPF, Result.andThen]
  simp [ReflectliteValue.elem, loadVar, isAgg, underlying, Tryz.underlying89, ha, Result.andThen, Tryz.elemOfPF, Tryz.mkF]
theorem rlsW (v x : Value) : ReflectliteValue.set #[v, x] = (do
    let (some (dst, a, fl), some (src, b, _)) := (← ReflectliteValue.parts v, ← ReflectliteValue.parts x)
      | unsupported (.noEntry "extern/(internal/reflectlite.Value).Set.zeroValue")
    if fl / ReflectliteValue.flagAddr % 2 == 0 then unsupported (.noEntry "extern/(internal/reflectlite.Value).Set.unaddressable")
    let val ← loadVar src b
    if ← Rtype.directlyAssignable dst src then storeVar dst a val
    else if ← Rtype.implements dst src then
      if (← Rtype.kind src) == 20 then
        match val with
        | .nilIface => unsupported (.noEntry "extern/reflectlite: a nil value of one interface type handed on as a value of another")
        | _ => storeVar dst a val
      else storeVar dst a (.iface src val)
    else panicString ("reflectlite.Set: value of type " ++ (← Rtype.spelt src) ++ " is not assignable to type " ++ (← Rtype.spelt dst))
    pure (.tuple #[])) := rfl
theorem Tryz.partsF (a : Addr) (w : World) : (ReflectliteValue.parts (.agg #[.pointer (some ⟨3, 87, none⟩), .pointer (some a), .int .u64 404])).run Tryz.prog w = .ok (some (87, a, 404)) w := by kernel_rfl
theorem Tryz.partsPt (a : Addr) (w : World) : (ReflectliteValue.parts (.agg #[.pointer (some ⟨3, 235, none⟩), .pointer (some a), .int .u64 150])).run Tryz.prog w = .ok (some (235, a, 150)) w := by kernel_rfl
theorem Tryz.directF (w : World) : (Rtype.directlyAssignable 87 235).run Tryz.prog w = .ok false w := by kernel_rfl
theorem Tryz.implF (w : World) : (Rtype.implements 87 235).run Tryz.prog w = .ok true w := by kernel_rfl
theorem Tryz.kindPt (w : World) : (Rtype.kind 235).run Tryz.prog w = .ok 22 w := by kernel_rfl
theorem Tryz.setF (ta b e : Addr) (old : Value) (W : World) (hb : W.cell? b = some (.pointer (some e))) (ht : W.cell? ta = some old) (hf : W.frozen? ta = false) :
    (ReflectliteValue.set #[.agg #[.pointer (some ⟨3, 87, none⟩), .pointer (some ta), .int .u64 404], .agg #[.pointer (some ⟨3, 235, none⟩), .pointer (some b), .int .u64 150]]).run Tryz.prog W
      = .ok (.tuple #[]) (W.setCell ta (.iface 235 (.pointer (some e)))) := by
  rw [rlsW]
  simp only [Sem.run_bind, Tryz.partsF, Tryz.partsPt, Result.andThen]
  simp [ReflectliteValue.flagAddr, loadVar, isAgg, underlying, Tryz.underlying235, hb, Result.andThen, Tryz.directF, Tryz.implF, Tryz.kindPt, storeVar, Value.cells, storeCells, Addr.add]
  rw [run_store Tryz.prog W ta _ _ (by rfl)]
  simp [ht, hf]
end Go.Proofs.YtifmifjbebpomaaGreatDoor
