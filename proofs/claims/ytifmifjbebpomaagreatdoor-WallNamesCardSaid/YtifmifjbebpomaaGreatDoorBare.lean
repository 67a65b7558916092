/- bare: a What with just the fields that its kind names. One theorem a kind; printed by gen_bare.py. -/
import Derived.Test.YtifmifjbebpomaaGreatDoorWholes
import Derived.StillTailTactics
import Derived.BigRegion
namespace Go.Proofs.YtifmifjbebpomaaGreatDoor
open Go.RowKit Go.ChangeMaps Go.MapKept

set_option maxRecDepth 8000 in
theorem bare_0 (w : World) (h vn vr n l tg bi vk s : Int) (vs : ByteArray) (fu : Bool) (a1 a2 a3 a4 : Option Addr) (n1 c1 n2 c2 n3 c3 n4 c4 : Nat) :
    Calls Tryz.prog 81 #[.agg #[.int .u8 0, .int .i64 h, .int .u8 vk, .int .i64 vn, .string vs, .slice a1 n1 c1, .int .i64 vr, .slice a2 n2 c2, .int .i64 n, .int .i64 l, .int .i64 tg, .int .i64 bi, .int .u8 s, .bool fu, .slice a3 n3 c3, .slice a4 n4 c4]] w fun e w' => e = .returned (.agg #[.int .u8 0, .int .i64 h, .int .u8 0, .int .i64 0, .string ⟨#[]⟩, .slice none 0 0, .int .i64 0, .slice none 0 0, .int .i64 0, .int .i64 0, .int .i64 0, .int .i64 0, .int .u8 0, .bool false, .slice none 0 0, .slice none 0 0]) ∧ Below w.heap.size w w' := by
  go_enter Tryz.func81, Tryz.ntmps81
  go_wp2
  refine bodyPost_ret (results_What rfl _ _ _ _ _ rfl (blk_at1 _ _ _ _ rfl) rfl) rfl ⟨rfl, by go_grown⟩

set_option maxRecDepth 8000 in
theorem bare_1 (w : World) (h vn vr n l tg bi vk s : Int) (vs : ByteArray) (fu : Bool) (a1 a2 a3 a4 : Option Addr) (n1 c1 n2 c2 n3 c3 n4 c4 : Nat) :
    Calls Tryz.prog 81 #[.agg #[.int .u8 1, .int .i64 h, .int .u8 vk, .int .i64 vn, .string vs, .slice a1 n1 c1, .int .i64 vr, .slice a2 n2 c2, .int .i64 n, .int .i64 l, .int .i64 tg, .int .i64 bi, .int .u8 s, .bool fu, .slice a3 n3 c3, .slice a4 n4 c4]] w fun e w' => e = .returned (.agg #[.int .u8 1, .int .i64 h, .int .u8 vk, .int .i64 vn, .string vs, .slice a1 n1 c1, .int .i64 vr, .slice none 0 0, .int .i64 0, .int .i64 0, .int .i64 0, .int .i64 0, .int .u8 0, .bool false, .slice none 0 0, .slice none 0 0]) ∧ Below w.heap.size w w' := by
  go_enter Tryz.func81, Tryz.ntmps81
  go_wp2
  refine bodyPost_ret (results_What rfl _ _ _ _ _ rfl (blk_at1 _ _ _ _ rfl) rfl) rfl ⟨rfl, by go_grown⟩

set_option maxRecDepth 8000 in
theorem bare_2 (w : World) (h vn vr n l tg bi vk s : Int) (vs : ByteArray) (fu : Bool) (a1 a2 a3 a4 : Option Addr) (n1 c1 n2 c2 n3 c3 n4 c4 : Nat) :
    Calls Tryz.prog 81 #[.agg #[.int .u8 2, .int .i64 h, .int .u8 vk, .int .i64 vn, .string vs, .slice a1 n1 c1, .int .i64 vr, .slice a2 n2 c2, .int .i64 n, .int .i64 l, .int .i64 tg, .int .i64 bi, .int .u8 s, .bool fu, .slice a3 n3 c3, .slice a4 n4 c4]] w fun e w' => e = .returned (.agg #[.int .u8 2, .int .i64 h, .int .u8 0, .int .i64 0, .string ⟨#[]⟩, .slice none 0 0, .int .i64 0, .slice a2 n2 c2, .int .i64 0, .int .i64 0, .int .i64 0, .int .i64 0, .int .u8 0, .bool false, .slice none 0 0, .slice none 0 0]) ∧ Below w.heap.size w w' := by
  go_enter Tryz.func81, Tryz.ntmps81
  go_wp2
  refine bodyPost_ret (results_What rfl _ _ _ _ _ rfl (blk_at1 _ _ _ _ rfl) rfl) rfl ⟨rfl, by go_grown⟩

set_option maxRecDepth 8000 in
theorem bare_3 (w : World) (h vn vr n l tg bi vk s : Int) (vs : ByteArray) (fu : Bool) (a1 a2 a3 a4 : Option Addr) (n1 c1 n2 c2 n3 c3 n4 c4 : Nat) :
    Calls Tryz.prog 81 #[.agg #[.int .u8 3, .int .i64 h, .int .u8 vk, .int .i64 vn, .string vs, .slice a1 n1 c1, .int .i64 vr, .slice a2 n2 c2, .int .i64 n, .int .i64 l, .int .i64 tg, .int .i64 bi, .int .u8 s, .bool fu, .slice a3 n3 c3, .slice a4 n4 c4]] w fun e w' => e = .returned (.agg #[.int .u8 3, .int .i64 h, .int .u8 0, .int .i64 0, .string ⟨#[]⟩, .slice none 0 0, .int .i64 0, .slice none 0 0, .int .i64 n, .int .i64 0, .int .i64 0, .int .i64 0, .int .u8 0, .bool false, .slice none 0 0, .slice none 0 0]) ∧ Below w.heap.size w w' := by
  go_enter Tryz.func81, Tryz.ntmps81
  go_wp2
  refine bodyPost_ret (results_What rfl _ _ _ _ _ rfl (blk_at1 _ _ _ _ rfl) rfl) rfl ⟨rfl, by go_grown⟩

set_option maxRecDepth 8000 in
theorem bare_4 (w : World) (h vn vr n l tg bi vk s : Int) (vs : ByteArray) (fu : Bool) (a1 a2 a3 a4 : Option Addr) (n1 c1 n2 c2 n3 c3 n4 c4 : Nat) :
    Calls Tryz.prog 81 #[.agg #[.int .u8 4, .int .i64 h, .int .u8 vk, .int .i64 vn, .string vs, .slice a1 n1 c1, .int .i64 vr, .slice a2 n2 c2, .int .i64 n, .int .i64 l, .int .i64 tg, .int .i64 bi, .int .u8 s, .bool fu, .slice a3 n3 c3, .slice a4 n4 c4]] w fun e w' => e = .returned (.agg #[.int .u8 4, .int .i64 h, .int .u8 0, .int .i64 0, .string ⟨#[]⟩, .slice none 0 0, .int .i64 0, .slice a2 n2 c2, .int .i64 0, .int .i64 0, .int .i64 0, .int .i64 0, .int .u8 0, .bool false, .slice none 0 0, .slice none 0 0]) ∧ Below w.heap.size w w' := by
  go_enter Tryz.func81, Tryz.ntmps81
  go_wp2
  refine bodyPost_ret (results_What rfl _ _ _ _ _ rfl (blk_at1 _ _ _ _ rfl) rfl) rfl ⟨rfl, by go_grown⟩

set_option maxRecDepth 8000 in
theorem bare_5 (w : World) (h vn vr n l tg bi vk s : Int) (vs : ByteArray) (fu : Bool) (a1 a2 a3 a4 : Option Addr) (n1 c1 n2 c2 n3 c3 n4 c4 : Nat) :
    Calls Tryz.prog 81 #[.agg #[.int .u8 5, .int .i64 h, .int .u8 vk, .int .i64 vn, .string vs, .slice a1 n1 c1, .int .i64 vr, .slice a2 n2 c2, .int .i64 n, .int .i64 l, .int .i64 tg, .int .i64 bi, .int .u8 s, .bool fu, .slice a3 n3 c3, .slice a4 n4 c4]] w fun e w' => e = .returned (.agg #[.int .u8 5, .int .i64 h, .int .u8 0, .int .i64 0, .string ⟨#[]⟩, .slice none 0 0, .int .i64 0, .slice none 0 0, .int .i64 0, .int .i64 0, .int .i64 0, .int .i64 0, .int .u8 0, .bool false, .slice none 0 0, .slice none 0 0]) ∧ Below w.heap.size w w' := by
  go_enter Tryz.func81, Tryz.ntmps81
  go_wp2
  refine bodyPost_ret (results_What rfl _ _ _ _ _ rfl (blk_at1 _ _ _ _ rfl) rfl) rfl ⟨rfl, by go_grown⟩

set_option maxRecDepth 8000 in
theorem bare_6 (w : World) (h vn vr n l tg bi vk s : Int) (vs : ByteArray) (fu : Bool) (a1 a2 a3 a4 : Option Addr) (n1 c1 n2 c2 n3 c3 n4 c4 : Nat) :
    Calls Tryz.prog 81 #[.agg #[.int .u8 6, .int .i64 h, .int .u8 vk, .int .i64 vn, .string vs, .slice a1 n1 c1, .int .i64 vr, .slice a2 n2 c2, .int .i64 n, .int .i64 l, .int .i64 tg, .int .i64 bi, .int .u8 s, .bool fu, .slice a3 n3 c3, .slice a4 n4 c4]] w fun e w' => e = .returned (.agg #[.int .u8 6, .int .i64 h, .int .u8 0, .int .i64 0, .string ⟨#[]⟩, .slice none 0 0, .int .i64 0, .slice none 0 0, .int .i64 0, .int .i64 0, .int .i64 tg, .int .i64 0, .int .u8 0, .bool false, .slice none 0 0, .slice none 0 0]) ∧ Below w.heap.size w w' := by
  go_enter Tryz.func81, Tryz.ntmps81
  go_wp2
  refine bodyPost_ret (results_What rfl _ _ _ _ _ rfl (blk_at1 _ _ _ _ rfl) rfl) rfl ⟨rfl, by go_grown⟩

set_option maxRecDepth 8000 in
theorem bare_7 (w : World) (h vn vr n l tg bi vk s : Int) (vs : ByteArray) (fu : Bool) (a1 a2 a3 a4 : Option Addr) (n1 c1 n2 c2 n3 c3 n4 c4 : Nat) :
    Calls Tryz.prog 81 #[.agg #[.int .u8 7, .int .i64 h, .int .u8 vk, .int .i64 vn, .string vs, .slice a1 n1 c1, .int .i64 vr, .slice a2 n2 c2, .int .i64 n, .int .i64 l, .int .i64 tg, .int .i64 bi, .int .u8 s, .bool fu, .slice a3 n3 c3, .slice a4 n4 c4]] w fun e w' => e = .returned (.agg #[.int .u8 7, .int .i64 h, .int .u8 vk, .int .i64 vn, .string vs, .slice a1 n1 c1, .int .i64 vr, .slice none 0 0, .int .i64 0, .int .i64 0, .int .i64 tg, .int .i64 0, .int .u8 0, .bool false, .slice none 0 0, .slice none 0 0]) ∧ Below w.heap.size w w' := by
  go_enter Tryz.func81, Tryz.ntmps81
  go_wp2
  go_region
  all_goals go_wp2
  all_goals refine bodyPost_ret (results_What rfl _ _ _ _ _ rfl (blk_at1d _ _ _ _ rfl) rfl) rfl ⟨rfl, by go_grown⟩

set_option maxRecDepth 8000 in
theorem bare_8 (w : World) (h vn vr n l tg bi vk s : Int) (vs : ByteArray) (fu : Bool) (a1 a2 a3 a4 : Option Addr) (n1 c1 n2 c2 n3 c3 n4 c4 : Nat) :
    Calls Tryz.prog 81 #[.agg #[.int .u8 8, .int .i64 h, .int .u8 vk, .int .i64 vn, .string vs, .slice a1 n1 c1, .int .i64 vr, .slice a2 n2 c2, .int .i64 n, .int .i64 l, .int .i64 tg, .int .i64 bi, .int .u8 s, .bool fu, .slice a3 n3 c3, .slice a4 n4 c4]] w fun e w' => e = .returned (.agg #[.int .u8 8, .int .i64 h, .int .u8 0, .int .i64 0, .string ⟨#[]⟩, .slice none 0 0, .int .i64 0, .slice none 0 0, .int .i64 n, .int .i64 l, .int .i64 0, .int .i64 0, .int .u8 0, .bool false, .slice none 0 0, .slice none 0 0]) ∧ Below w.heap.size w w' := by
  go_enter Tryz.func81, Tryz.ntmps81
  go_wp2
  go_region
  all_goals go_wp2
  all_goals refine bodyPost_ret (results_What rfl _ _ _ _ _ rfl (blk_at1d _ _ _ _ rfl) rfl) rfl ⟨rfl, by go_grown⟩

set_option maxRecDepth 8000 in
theorem bare_9 (w : World) (h vn vr n l tg bi vk s : Int) (vs : ByteArray) (fu : Bool) (a1 a2 a3 a4 : Option Addr) (n1 c1 n2 c2 n3 c3 n4 c4 : Nat) :
    Calls Tryz.prog 81 #[.agg #[.int .u8 9, .int .i64 h, .int .u8 vk, .int .i64 vn, .string vs, .slice a1 n1 c1, .int .i64 vr, .slice a2 n2 c2, .int .i64 n, .int .i64 l, .int .i64 tg, .int .i64 bi, .int .u8 s, .bool fu, .slice a3 n3 c3, .slice a4 n4 c4]] w fun e w' => e = .returned (.agg #[.int .u8 9, .int .i64 h, .int .u8 0, .int .i64 0, .string ⟨#[]⟩, .slice none 0 0, .int .i64 0, .slice none 0 0, .int .i64 n, .int .i64 0, .int .i64 tg, .int .i64 0, .int .u8 0, .bool false, .slice none 0 0, .slice none 0 0]) ∧ Below w.heap.size w w' := by
  go_enter Tryz.func81, Tryz.ntmps81
  go_wp2
  go_region
  all_goals go_wp2
  all_goals refine bodyPost_ret (results_What rfl _ _ _ _ _ rfl (blk_at1d _ _ _ _ rfl) rfl) rfl ⟨rfl, by go_grown⟩

set_option maxRecDepth 8000 in
theorem bare_10 (w : World) (h vn vr n l tg bi vk s : Int) (vs : ByteArray) (fu : Bool) (a1 a2 a3 a4 : Option Addr) (n1 c1 n2 c2 n3 c3 n4 c4 : Nat) :
    Calls Tryz.prog 81 #[.agg #[.int .u8 10, .int .i64 h, .int .u8 vk, .int .i64 vn, .string vs, .slice a1 n1 c1, .int .i64 vr, .slice a2 n2 c2, .int .i64 n, .int .i64 l, .int .i64 tg, .int .i64 bi, .int .u8 s, .bool fu, .slice a3 n3 c3, .slice a4 n4 c4]] w fun e w' => e = .returned (.agg #[.int .u8 10, .int .i64 h, .int .u8 vk, .int .i64 vn, .string vs, .slice a1 n1 c1, .int .i64 vr, .slice none 0 0, .int .i64 0, .int .i64 0, .int .i64 0, .int .i64 0, .int .u8 0, .bool fu, .slice none 0 0, .slice none 0 0]) ∧ Below w.heap.size w w' := by
  go_enter Tryz.func81, Tryz.ntmps81
  go_wp2
  go_region
  all_goals go_wp2
  all_goals refine bodyPost_ret (results_What rfl _ _ _ _ _ rfl (blk_at1d _ _ _ _ rfl) rfl) rfl ⟨rfl, by go_grown⟩

set_option maxRecDepth 8000 in
theorem bare_11 (w : World) (h vn vr n l tg bi vk s : Int) (vs : ByteArray) (fu : Bool) (a1 a2 a3 a4 : Option Addr) (n1 c1 n2 c2 n3 c3 n4 c4 : Nat) :
    Calls Tryz.prog 81 #[.agg #[.int .u8 11, .int .i64 h, .int .u8 vk, .int .i64 vn, .string vs, .slice a1 n1 c1, .int .i64 vr, .slice a2 n2 c2, .int .i64 n, .int .i64 l, .int .i64 tg, .int .i64 bi, .int .u8 s, .bool fu, .slice a3 n3 c3, .slice a4 n4 c4]] w fun e w' => e = .returned (.agg #[.int .u8 11, .int .i64 h, .int .u8 0, .int .i64 0, .string ⟨#[]⟩, .slice none 0 0, .int .i64 0, .slice none 0 0, .int .i64 0, .int .i64 0, .int .i64 tg, .int .i64 0, .int .u8 0, .bool false, .slice none 0 0, .slice none 0 0]) ∧ Below w.heap.size w w' := by
  go_enter Tryz.func81, Tryz.ntmps81
  go_wp2
  refine bodyPost_ret (results_What rfl _ _ _ _ _ rfl (blk_at1 _ _ _ _ rfl) rfl) rfl ⟨rfl, by go_grown⟩

set_option maxRecDepth 8000 in
theorem bare_12 (w : World) (h vn vr n l tg bi vk s : Int) (vs : ByteArray) (fu : Bool) (a1 a2 a3 a4 : Option Addr) (n1 c1 n2 c2 n3 c3 n4 c4 : Nat) :
    Calls Tryz.prog 81 #[.agg #[.int .u8 12, .int .i64 h, .int .u8 vk, .int .i64 vn, .string vs, .slice a1 n1 c1, .int .i64 vr, .slice a2 n2 c2, .int .i64 n, .int .i64 l, .int .i64 tg, .int .i64 bi, .int .u8 s, .bool fu, .slice a3 n3 c3, .slice a4 n4 c4]] w fun e w' => e = .returned (.agg #[.int .u8 12, .int .i64 h, .int .u8 0, .int .i64 0, .string ⟨#[]⟩, .slice none 0 0, .int .i64 0, .slice none 0 0, .int .i64 0, .int .i64 0, .int .i64 0, .int .i64 0, .int .u8 0, .bool false, .slice a3 n3 c3, .slice a4 n4 c4]) ∧ Below w.heap.size w w' := by
  go_enter Tryz.func81, Tryz.ntmps81
  go_wp2
  go_region
  all_goals go_wp2
  all_goals refine bodyPost_ret (results_What rfl _ _ _ _ _ rfl (blk_at1d _ _ _ _ rfl) rfl) rfl ⟨rfl, by go_grown⟩

set_option maxRecDepth 8000 in
theorem bare_13 (w : World) (h vn vr n l tg bi vk s : Int) (vs : ByteArray) (fu : Bool) (a1 a2 a3 a4 : Option Addr) (n1 c1 n2 c2 n3 c3 n4 c4 : Nat) :
    Calls Tryz.prog 81 #[.agg #[.int .u8 13, .int .i64 h, .int .u8 vk, .int .i64 vn, .string vs, .slice a1 n1 c1, .int .i64 vr, .slice a2 n2 c2, .int .i64 n, .int .i64 l, .int .i64 tg, .int .i64 bi, .int .u8 s, .bool fu, .slice a3 n3 c3, .slice a4 n4 c4]] w fun e w' => e = .returned (.agg #[.int .u8 13, .int .i64 h, .int .u8 0, .int .i64 0, .string ⟨#[]⟩, .slice none 0 0, .int .i64 0, .slice none 0 0, .int .i64 0, .int .i64 0, .int .i64 tg, .int .i64 0, .int .u8 0, .bool fu, .slice none 0 0, .slice none 0 0]) ∧ Below w.heap.size w w' := by
  go_enter Tryz.func81, Tryz.ntmps81
  go_wp2
  go_region
  all_goals go_wp2
  all_goals refine bodyPost_ret (results_What rfl _ _ _ _ _ rfl (blk_at1d _ _ _ _ rfl) rfl) rfl ⟨rfl, by go_grown⟩

set_option maxRecDepth 8000 in
theorem bare_14 (w : World) (h vn vr n l tg bi vk s : Int) (vs : ByteArray) (fu : Bool) (a1 a2 a3 a4 : Option Addr) (n1 c1 n2 c2 n3 c3 n4 c4 : Nat) :
    Calls Tryz.prog 81 #[.agg #[.int .u8 14, .int .i64 h, .int .u8 vk, .int .i64 vn, .string vs, .slice a1 n1 c1, .int .i64 vr, .slice a2 n2 c2, .int .i64 n, .int .i64 l, .int .i64 tg, .int .i64 bi, .int .u8 s, .bool fu, .slice a3 n3 c3, .slice a4 n4 c4]] w fun e w' => e = .returned (.agg #[.int .u8 14, .int .i64 0, .int .u8 0, .int .i64 0, .string ⟨#[]⟩, .slice none 0 0, .int .i64 0, .slice none 0 0, .int .i64 0, .int .i64 0, .int .i64 tg, .int .i64 0, .int .u8 s, .bool false, .slice none 0 0, .slice none 0 0]) ∧ Below w.heap.size w w' := by
  go_enter Tryz.func81, Tryz.ntmps81
  go_wp2
  refine bodyPost_ret (results_What rfl _ _ _ _ _ rfl (blk_at1 _ _ _ _ rfl) rfl) rfl ⟨rfl, by go_grown⟩

set_option maxRecDepth 8000 in
theorem bare_15 (w : World) (h vn vr n l tg bi vk s : Int) (vs : ByteArray) (fu : Bool) (a1 a2 a3 a4 : Option Addr) (n1 c1 n2 c2 n3 c3 n4 c4 : Nat) :
    Calls Tryz.prog 81 #[.agg #[.int .u8 15, .int .i64 h, .int .u8 vk, .int .i64 vn, .string vs, .slice a1 n1 c1, .int .i64 vr, .slice a2 n2 c2, .int .i64 n, .int .i64 l, .int .i64 tg, .int .i64 bi, .int .u8 s, .bool fu, .slice a3 n3 c3, .slice a4 n4 c4]] w fun e w' => e = .returned (.agg #[.int .u8 15, .int .i64 h, .int .u8 0, .int .i64 0, .string ⟨#[]⟩, .slice none 0 0, .int .i64 0, .slice none 0 0, .int .i64 0, .int .i64 0, .int .i64 tg, .int .i64 bi, .int .u8 0, .bool false, .slice none 0 0, .slice none 0 0]) ∧ Below w.heap.size w w' := by
  go_enter Tryz.func81, Tryz.ntmps81
  go_wp2
  go_region
  all_goals go_wp2
  all_goals refine bodyPost_ret (results_What rfl _ _ _ _ _ rfl (blk_at1d _ _ _ _ rfl) rfl) rfl ⟨rfl, by go_grown⟩

set_option maxRecDepth 8000 in
theorem bare_16 (w : World) (h vn vr n l tg bi vk s : Int) (vs : ByteArray) (fu : Bool) (a1 a2 a3 a4 : Option Addr) (n1 c1 n2 c2 n3 c3 n4 c4 : Nat) :
    Calls Tryz.prog 81 #[.agg #[.int .u8 16, .int .i64 h, .int .u8 vk, .int .i64 vn, .string vs, .slice a1 n1 c1, .int .i64 vr, .slice a2 n2 c2, .int .i64 n, .int .i64 l, .int .i64 tg, .int .i64 bi, .int .u8 s, .bool fu, .slice a3 n3 c3, .slice a4 n4 c4]] w fun e w' => e = .returned (.agg #[.int .u8 16, .int .i64 h, .int .u8 0, .int .i64 0, .string ⟨#[]⟩, .slice none 0 0, .int .i64 0, .slice none 0 0, .int .i64 0, .int .i64 0, .int .i64 tg, .int .i64 bi, .int .u8 0, .bool false, .slice none 0 0, .slice none 0 0]) ∧ Below w.heap.size w w' := by
  go_enter Tryz.func81, Tryz.ntmps81
  go_wp2
  go_region
  all_goals go_wp2
  all_goals refine bodyPost_ret (results_What rfl _ _ _ _ _ rfl (blk_at1d _ _ _ _ rfl) rfl) rfl ⟨rfl, by go_grown⟩

end Go.Proofs.YtifmifjbebpomaaGreatDoor
