/- errors.As, errors.Is of the fault of a number. -/
import Derived.Test.YtifmifjbebpomaaGreatDoorWaF
import Derived.Lib.IfaceEq
namespace Go.Proofs.YtifmifjbebpomaaGreatDoor
open Go.RowKit Go.Extern.Stop Go.Stop Go.Extern

set_option maxHeartbeats 4000000 in
theorem as_fault {w : World} {e t : Addr} (ht0 : w.cell? t = some .nilIface) (hf0 : w.frozen? t = false) :
    Calls Tryz.prog 28 #[.iface 235 (.pointer (some e)), .iface 89 (.pointer (some t))] w fun ev w' => ev = .returned (.bool true) ∧ w' = ((((w.alloc (.cells #[.pointer (some t)] 89)).alloc (.cells #[.pointer (some ⟨3, 89, none⟩), .pointer (some ⟨w.heap.size, 0, none⟩), .int .u64 150] 149)).alloc (.cells #[.pointer (some ⟨3, 89, none⟩), .pointer (some ⟨w.heap.size, 0, none⟩), .int .u64 150] 149)).alloc (.cells #[.pointer (some e)] 235)).setCell t (.iface 235 (.pointer (some e))) := by
  have h6 := @run_callFunc_extern Tryz.prog 69 _ (fun args => ReflectliteValue.unpack (args.getD 0 (.tuple #[]))) Tryz.func69 (by kernel_rfl) (by kernel_rfl) (by kernel_rfl) (by kernel_rfl)
  have h7 := @run_callFunc_extern Tryz.prog 70 _ (ReflectliteValue.methodAny (ReflectliteValue.valueError "reflectlite.Value.Type" 0) (fun t _ _ _ => ReflectliteType.toType t)) Tryz.func70 (by kernel_rfl) (by kernel_rfl) (by kernel_rfl) (by kernel_rfl)
  have h8 := @run_callFunc_extern Tryz.prog 71 _ (ReflectliteValue.method (ReflectliteValue.valueError "reflectlite.Value.IsNil" 0) ReflectliteValue.isNil) Tryz.func71 (by kernel_rfl) (by kernel_rfl) (by kernel_rfl) (by kernel_rfl)
  have h27 := @run_callFunc_extern Tryz.prog 215 _ (ReflectliteType.abiMethod fun t => do pure (.int .u8 (← Rtype.kind t))) Tryz.func215 (by kernel_rfl) (by kernel_rfl) (by kernel_rfl) (by kernel_rfl)
  have h37 := @run_callFunc_extern Tryz.prog 226 _ (ReflectliteType.method ReflectliteType.elem) Tryz.func226 (by kernel_rfl) (by kernel_rfl) (by kernel_rfl) (by kernel_rfl)
  have h10 := @run_callFunc_extern Tryz.prog 39 _ ReflectliteType.typeOf Tryz.func39 (by kernel_rfl) (by kernel_rfl) (by kernel_rfl) (by kernel_rfl)
  have h35 := @run_callFunc_extern Tryz.prog 224 _ (ReflectliteType.relation "AssignableTo" ReflectliteType.assignableTo) Tryz.func224 (by kernel_rfl) (by kernel_rfl) (by kernel_rfl) (by kernel_rfl)
  have h11 := @run_callFunc_extern Tryz.prog 115 _ (ReflectliteValue.method (ReflectliteValue.valueError "reflectlite.Value.Elem" 0) ReflectliteValue.elem) Tryz.func115 (by kernel_rfl) (by kernel_rfl) (by kernel_rfl) (by kernel_rfl)
  have h12 := @run_callFunc_extern Tryz.prog 116 _ ReflectliteValue.set Tryz.func116 (by kernel_rfl) (by kernel_rfl) (by kernel_rfl) (by kernel_rfl)
  have tO := Tryz.typeOfPt
  have mA := Tryz.methodAssignableTo
  have a25 := Tryz.assignPt
  have v25 := Tryz.valueOfPt
  have f6 := Tryz.valueOfPF
  have f7 := Tryz.typePF
  have mK := Tryz.methodKind
  have mE := Tryz.methodElem
  have k27 := Tryz.kindPF
  have k25 := Tryz.kindF
  have e27 := Tryz.elemPF
  have n8 := Tryz.isNilPF ⟨w.heap.size, 0, none⟩ t ((w.alloc (.cells #[.pointer (some t)] 89)).alloc (.cells #[.pointer (some ⟨3, 89, none⟩), .pointer (some ⟨w.heap.size, 0, none⟩), .int .u64 150] 149)) (by simp)
  have htl : t.block < w.heap.size := World.block_lt_of_cell? _ _ ht0
  have el := Tryz.elemVPF ⟨w.heap.size, 0, none⟩ t (((w.alloc (.cells #[.pointer (some t)] 89)).alloc (.cells #[.pointer (some ⟨3, 89, none⟩), .pointer (some ⟨w.heap.size, 0, none⟩), .int .u64 150] 149)).alloc (.cells #[.pointer (some ⟨3, 89, none⟩), .pointer (some ⟨w.heap.size, 0, none⟩), .int .u64 150] 149)) (by rw [World.cell?_alloc_lt _ _ ⟨w.heap.size, 0, none⟩ (by simp; omega)]; simp)
  have st := Tryz.setF t ⟨w.heap.size + 1 + 1 + 1, 0, none⟩ e .nilIface ((((w.alloc (.cells #[.pointer (some t)] 89)).alloc (.cells #[.pointer (some ⟨3, 89, none⟩), .pointer (some ⟨w.heap.size, 0, none⟩), .int .u64 150] 149)).alloc (.cells #[.pointer (some ⟨3, 89, none⟩), .pointer (some ⟨w.heap.size, 0, none⟩), .int .u64 150] 149)).alloc (.cells #[.pointer (some e)] 235))
    (by rw [World.cell?_alloc_at _ _ _ _ (by simp)]; rfl)
    (by rw [World.cell?_alloc_lt _ _ t (by simp; omega), World.cell?_alloc_lt _ _ t (by simp; omega), World.cell?_alloc_lt _ _ t (by simp; omega), World.cell?_alloc_lt _ _ t htl]; exact ht0)
    (by rw [World.frozen?_alloc_old _ _ t (by simp; omega), World.frozen?_alloc_old _ _ t (by simp; omega), World.frozen?_alloc_old _ _ t (by simp; omega), World.frozen?_alloc_old _ _ t (Nat.ne_of_lt htl)]; exact hf0)
  go_enter Tryz.func28, Tryz.ntmps28
  go_wp2
  refine wp_loop_rounds 1 ?_
  rw [rounds_succ]
  go_wp2
  go_ret
  exact ⟨rfl, rfl⟩

/-! ### errors.Is -/
theorem Tryz.isTypeOfE (v : Value) (w : World) : (ReflectliteType.typeOf #[.iface 40 v]).run Tryz.prog w = .ok (.iface 164 (.agg #[.pointer (some ⟨3, 40, none⟩)])) w := by kernel_rfl
theorem Tryz.compRun (w : World) : (callFunc 225 #[.agg #[.pointer (some ⟨3, 40, none⟩)]]).run Tryz.prog w = .ok (.value (.bool true)) w := by
  rw [@run_callFunc_extern Tryz.prog 225 _ (ReflectliteType.method fun t => do Rtype.noPackHeld "Comparable" t; pure (.bool (← typeInfo t).comparable)) Tryz.func225 (by kernel_rfl) (by kernel_rfl) (by kernel_rfl) (by kernel_rfl)]
  kernel_rfl
theorem Tryz.isMethodComp (v : Value) (w : World) : (Go.method 450 164 v "Comparable").run Tryz.prog w = .ok (225, v) w := by kernel_rfl
theorem Tryz.noIsT (v : Value) (xT : TypeId) (w : World) : (Instr.typeAssert (.iface 235 v) xT 166 true).run Tryz.prog w = .ok (.tuple #[.nilIface, .bool false]) w := run_typeAssert_lacksB Tryz.underlying166 (by kernel_rfl) (by kernel_rfl) v xT w
theorem Tryz.noUnwrapT (v : Value) (xT : TypeId) (w : World) : (Instr.typeAssert (.iface 235 v) xT 169 true).run Tryz.prog w = .ok (.tuple #[.nilIface, .bool false]) w := run_typeAssert_lacksB Tryz.underlying169 (by kernel_rfl) (by kernel_rfl) v xT w
theorem Tryz.hasUnwrapsT (v : Value) (xT : TypeId) (w : World) : (Instr.typeAssert (.iface 235 v) xT 170 true).run Tryz.prog w = .ok (.tuple #[.iface 235 v, .bool true]) w := run_typeAssert_hasB Tryz.underlying170 (by kernel_rfl) v xT w
theorem Tryz.methodUnwrapT (v : Value) (w : World) : (Go.method 450 235 v "Unwrap").run Tryz.prog w = .ok (236, v) w := by kernel_rfl
theorem Tryz.methodCodeT (v : Value) (w : World) : (Go.method 450 235 v "Code").run Tryz.prog w = .ok (234, v) w := by kernel_rfl
theorem Tryz.eqErr (c : Int) (w : World) : (binOp .eql 51 (.iface 40 (.int .i64 c)) (.iface 40 (.int .i64 c))).run Tryz.prog w = .ok (.bool true) w := by
  have := Go.Lib.run_eql_iface_int (P := Tryz.prog) (k := .i64) w c c Tryz.underlying51 (by kernel_rfl) Tryz.underlying40
  rwa [beq_self_eq_true] at this
set_option maxHeartbeats 4000000 in
theorem eis_same (c : Int) (w : World) : Calls Tryz.prog 40 #[.iface 40 (.int .i64 c), .iface 40 (.int .i64 c), .bool true] w fun e w' => e = .returned (.bool true) ∧ w' = w := by
  have heq := Tryz.eqErr c w
  go_enter Tryz.func40, Tryz.ntmps40
  go_wp2
  refine wp_loop_rounds 1 ?_
  rw [rounds_succ]
  go_wp2
  go_ret
  exact ⟨rfl, rfl⟩
set_option maxHeartbeats 4000000 in
theorem eis_fault {w : World} {g : Nat} {c : Int} (h : FaultAt w g c) : Calls Tryz.prog 40 #[.iface 235 (.pointer (some ⟨g, 0, none⟩)), .iface 40 (.int .i64 c), .bool true] w fun e w' => e = .returned (.bool true) ∧ Below w.heap.size w w' := by
  have hty := run_eql_iface_types (P := Tryz.prog) 235 40 (.pointer (some ⟨g, 0, none⟩)) (.int .i64 c) Tryz.underlying51 (by decide) w
  have nI := Tryz.noIsT
  have nU := Tryz.noUnwrapT
  have hU := Tryz.hasUnwrapsT
  have mU := Tryz.methodUnwrapT
  have hun := fUnwrap_leaf h
  have hs := fun W => eis_same c W
  go_enter Tryz.func40, Tryz.ntmps40
  go_wp2_with fail
  refine wp_loop_rounds 1 ?_
  rw [rounds_succ]
  go_wp2_with fail
  refine hun.mono ?_
  rintro e w1 ⟨b, rfl, hb, hB⟩
  have HB := (show Hid (Below w.heap.size w w1) from hB)
  clear hB
  go_wp2_with fail
  refine wp_loop_rounds 1 ?_
  rw [rounds_succ]
  go_wp2_with fail
  refine (hs _).mono ?_
  rintro e _ ⟨rfl, rfl⟩
  go_wp2_with fail
  go_ret
  exact ⟨rfl, HB.out⟩
set_option maxHeartbeats 4000000 in
theorem is_fault {w : World} {g : Nat} {c : Int} (h : FaultAt w g c) : Calls Tryz.prog 13 #[.iface 235 (.pointer (some ⟨g, 0, none⟩)), .iface 40 (.int .i64 c)] w fun e w' => e = .returned (.bool true) ∧ Below w.heap.size w w' := by
  have h8 := @run_callFunc_extern Tryz.prog 39 _ ReflectliteType.typeOf Tryz.func39 (by kernel_rfl) (by kernel_rfl) (by kernel_rfl) (by kernel_rfl)
  have h32 := Tryz.compRun
  have tT := Tryz.isTypeOfE
  have mR := Tryz.isMethodComp
  have hI := eis_fault h
  go_enter Tryz.func13, Tryz.ntmps13
  go_wp2_with fail
  refine hI.mono ?_
  rintro e w1 ⟨rfl, hb⟩
  go_wp2_with fail
  go_ret
  exact ⟨rfl, hb⟩
end Go.Proofs.YtifmifjbebpomaaGreatDoor
