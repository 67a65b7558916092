/- A part of the proof, several texts in one: Bare, FormA. -/
import Derived.Test.YtifmifjbebpomaaGreatDoormAF
import Derived.StillTailTactics
import Derived.BigRegion
import Derived.Test.YtifmifjbebpomaaGreatDoormAG
import Derived.Test.YtifmifjbebpomaaGreatDoormAB
import Derived.Deep.QuietTactic
import Derived.BigQuiet
/- bare: a What with just the fields that its kind names. One theorem a kind; printed by gen_bare.py. -/
namespace Go.Proofs.YtifmifjbebpomaaGreatDoor
open Go.RowKit Go.ChangeMaps Go.MapKept

set_option maxRecDepth 8000 in
theorem bare_0 (w : World) (h vn vr n l tg bi vk s : Int) (vs : ByteArray) (fu : Bool) (a1 a2 a3 a4 : Option Addr) (n1 c1 n2 c2 n3 c3 n4 c4 : Nat) :
    Calls Tryz.prog 81 #[.agg #[.int .u8 0, .int .i64 h, .int .u8 vk, .int .i64 vn, .string vs, .slice a1 n1 c1, .int .i64 vr, .slice a2 n2 c2, .int .i64 n, .int .i64 l, .int .i64 tg, .int .i64 bi, .int .u8 s, .bool fu, .slice a3 n3 c3, .slice a4 n4 c4]] w fun e w' => e = .returned (.agg #[.int .u8 0, .int .i64 h, .int .u8 0, .int .i64 0, .string ⟨#[]⟩, .slice none 0 0, .int .i64 0, .slice none 0 0, .int .i64 0, .int .i64 0, .int .i64 0, .int .i64 0, .int .u8 0, .bool false, .slice none 0 0, .slice none 0 0]) ∧ Below w.heap.size w w' := by
  go_enter Tryz.func81, Tryz.ntmps81
  go_wp2
  refine bodyPost_ret (results_What rfl _ _ _ _ _ rfl (blk_at1 _ _ _ _ rfl) rfl) rfl ⟨rfl, by go_grown⟩

set_option maxRecDepth 8000 in
theorem bare_1 (w : World) (h vn vr n l tg bi vk s : Int) (vs : ByteArray) (fu : Bool) (a1 a2 a3 a4 : Option Addr) (n1 c1 n2 c2 n3 c3 n4 c4 : Nat) :
    Calls Tryz.prog 81 #[.agg #[.int .u8 1, .int .i64 h, .int .u8 vk, .int .i64 vn, .string vs, .slice a1 n1 c1, .int .i64 vr, .slice a2 n2 c2, .int .i64 n, .int .i64 l, .int .i64 tg, .int .i64 bi, .int .u8 s, .bool fu, .slice a3 n3 c3, .slice a4 n4 c4]] w fun e w' => e = .returned (.agg #[.int .u8 1, .int .i64 h, .int .u8 vk, .int .i64 vn, .string vs, .slice a1 n1 c1, .int .i64 vr, .slice none 0 0, .int .i64 0, .int .i64 0, .int .i64 0, .int .i64 0, .int .u8 0, .bool false, .slice none 0 0, .slice none 0 0]) ∧ Below w.heap.size w w' := by
  go_enter Tryz.func81, Tryz.ntmps81
  go_wp2
  refine bodyPost_ret (results_What rfl _ _ _ _ _ rfl (blk_at1 _ _ _ _ rfl) rfl) rfl ⟨rfl, by go_grown⟩

set_option maxRecDepth 8000 in
theorem bare_2 (w : World) (h vn vr n l tg bi vk s : Int) (vs : ByteArray) (fu : Bool) (a1 a2 a3 a4 : Option Addr) (n1 c1 n2 c2 n3 c3 n4 c4 : Nat) :
    Calls Tryz.prog 81 #[.agg #[.int .u8 2, .int .i64 h, .int .u8 vk, .int .i64 vn, .string vs, .slice a1 n1 c1, .int .i64 vr, .slice a2 n2 c2, .int .i64 n, .int .i64 l, .int .i64 tg, .int .i64 bi, .int .u8 s, .bool fu, .slice a3 n3 c3, .slice a4 n4 c4]] w fun e w' => e = .returned (.agg #[.int .u8 2, .int .i64 h, .int .u8 0, .int .i64 0, .string ⟨#[]⟩, .slice none 0 0, .int .i64 0, .slice a2 n2 c2, .int .i64 0, .int .i64 0, .int .i64 0, .int .i64 0, .int .u8 0, .bool false, .slice none 0 0, .slice none 0 0]) ∧ Below w.heap.size w w' := by
  go_enter Tryz.func81, Tryz.ntmps81
  go_wp2
  refine bodyPost_ret (results_What rfl _ _ _ _ _ rfl (blk_at1 _ _ _ _ rfl) rfl) rfl ⟨rfl, by go_grown⟩

set_option maxRecDepth 8000 in
theorem bare_3 (w : World) (h vn vr n l tg bi vk s : Int) (vs : ByteArray) (fu : Bool) (a1 a2 a3 a4 : Option Addr) (n1 c1 n2 c2 n3 c3 n4 c4 : Nat) :
    Calls Tryz.prog 81 #[.agg #[.int .u8 3, .int .i64 h, .int .u8 vk, .int .i64 vn, .string vs, .slice a1 n1 c1, .int .i64 vr, .slice a2 n2 c2, .int .i64 n, .int .i64 l, .int .i64 tg, .int .i64 bi, .int .u8 s, .bool fu, .slice a3 n3 c3, .slice a4 n4 c4]] w fun e w' => e = .returned (.agg #[.int .u8 3, .int .i64 h, .int .u8 0, .int .i64 0, .string ⟨#[]⟩, .slice none 0 0, .int .i64 0, .slice none 0 0, .int .i64 n, .int .i64 0, .int .i64 0, .int .i64 0, .int .u8 0, .bool false, .slice none 0 0, .slice none 0 0]) ∧ Below w.heap.size w w' := by
  go_enter Tryz.func81, Tryz.ntmps81
  go_wp2
  refine bodyPost_ret (results_What rfl _ _ _ _ _ rfl (blk_at1 _ _ _ _ rfl) rfl) rfl ⟨rfl, by go_grown⟩

set_option maxRecDepth 8000 in
theorem bare_4 (w : World) (h vn vr n l tg bi vk s : Int) (vs : ByteArray) (fu : Bool) (a1 a2 a3 a4 : Option Addr) (n1 c1 n2 c2 n3 c3 n4 c4 : Nat) :
    Calls Tryz.prog 81 #[.agg #[.int .u8 4, .int .i64 h, .int .u8 vk, .int .i64 vn, .string vs, .slice a1 n1 c1, .int .i64 vr, .slice a2 n2 c2, .int .i64 n, .int .i64 l, .int .i64 tg, .int .i64 bi, .int .u8 s, .bool fu, .slice a3 n3 c3, .slice a4 n4 c4]] w fun e w' => e = .returned (.agg #[.int .u8 4, .int .i64 h, .int .u8 0, .int .i64 0, .string ⟨#[]⟩, .slice none 0 0, .int .i64 0, .slice a2 n2 c2, .int .i64 0, .int .i64 0, .int .i64 0, .int .i64 0, .int .u8 0, .bool false, .slice none 0 0, .slice none 0 0]) ∧ Below w.heap.size w w' := by
  go_enter Tryz.func81, Tryz.ntmps81
  go_wp2
  refine bodyPost_ret (results_What rfl _ _ _ _ _ rfl (blk_at1 _ _ _ _ rfl) rfl) rfl ⟨rfl, by go_grown⟩

set_option maxRecDepth 8000 in
theorem bare_5 (w : World) (h vn vr n l tg bi vk s : Int) (vs : ByteArray) (fu : Bool) (a1 a2 a3 a4 : Option Addr) (n1 c1 n2 c2 n3 c3 n4 c4 : Nat) :
    Calls Tryz.prog 81 #[.agg #[.int .u8 5, .int .i64 h, .int .u8 vk, .int .i64 vn, .string vs, .slice a1 n1 c1, .int .i64 vr, .slice a2 n2 c2, .int .i64 n, .int .i64 l, .int .i64 tg, .int .i64 bi, .int .u8 s, .bool fu, .slice a3 n3 c3, .slice a4 n4 c4]] w fun e w' => e = .returned (.agg #[.int .u8 5, .int .i64 h, .int .u8 0, .int .i64 0, .string ⟨#[]⟩, .slice none 0 0, .int .i64 0, .slice none 0 0, .int .i64 0, .int .i64 0, .int .i64 0, .int .i64 0, .int .u8 0, .bool false, .slice none 0 0, .slice none 0 0]) ∧ Below w.heap.size w w' := by
  go_enter Tryz.func81, Tryz.ntmps81
  go_wp2
  refine bodyPost_ret (results_What rfl _ _ _ _ _ rfl (blk_at1 _ _ _ _ rfl) rfl) rfl ⟨rfl, by go_grown⟩

set_option maxRecDepth 8000 in
theorem bare_6 (w : World) (h vn vr n l tg bi vk s : Int) (vs : ByteArray) (fu : Bool) (a1 a2 a3 a4 : Option Addr) (n1 c1 n2 c2 n3 c3 n4 c4 : Nat) :
    Calls Tryz.prog 81 #[.agg #[.int .u8 6, .int .i64 h, .int .u8 vk, .int .i64 vn, .string vs, .slice a1 n1 c1, .int .i64 vr, .slice a2 n2 c2, .int .i64 n, .int .i64 l, .int .i64 tg, .int .i64 bi, .int .u8 s, .bool fu, .slice a3 n3 c3, .slice a4 n4 c4]] w fun e w' => e = .returned (.agg #[.int .u8 6, .int .i64 h, .int .u8 0, .int .i64 0, .string ⟨#[]⟩, .slice none 0 0, .int .i64 0, .slice none 0 0, .int .i64 0, .int .i64 0, .int .i64 tg, .int .i64 0, .int .u8 0, .bool false, .slice none 0 0, .slice none 0 0]) ∧ Below w.heap.size w w' := by
  go_enter Tryz.func81, Tryz.ntmps81
  go_wp2
  refine bodyPost_ret (results_What rfl _ _ _ _ _ rfl (blk_at1 _ _ _ _ rfl) rfl) rfl ⟨rfl, by go_grown⟩

set_option maxRecDepth 8000 in
theorem bare_7 (w : World) (h vn vr n l tg bi vk s : Int) (vs : ByteArray) (fu : Bool) (a1 a2 a3 a4 : Option Addr) (n1 c1 n2 c2 n3 c3 n4 c4 : Nat) :
    Calls Tryz.prog 81 #[.agg #[.int .u8 7, .int .i64 h, .int .u8 vk, .int .i64 vn, .string vs, .slice a1 n1 c1, .int .i64 vr, .slice a2 n2 c2, .int .i64 n, .int .i64 l, .int .i64 tg, .int .i64 bi, .int .u8 s, .bool fu, .slice a3 n3 c3, .slice a4 n4 c4]] w fun e w' => e = .returned (.agg #[.int .u8 7, .int .i64 h, .int .u8 vk, .int .i64 vn, .string vs, .slice a1 n1 c1, .int .i64 vr, .slice none 0 0, .int .i64 0, .int .i64 0, .int .i64 tg, .int .i64 0, .int .u8 0, .bool false, .slice none 0 0, .slice none 0 0]) ∧ Below w.heap.size w w' := by
  go_enter Tryz.func81, Tryz.ntmps81
  go_wp2
  go_region
  all_goals go_wp2
  all_goals refine bodyPost_ret (results_What rfl _ _ _ _ _ rfl (blk_at1d _ _ _ _ rfl) rfl) rfl ⟨rfl, by go_grown⟩

set_option maxRecDepth 8000 in
theorem bare_8 (w : World) (h vn vr n l tg bi vk s : Int) (vs : ByteArray) (fu : Bool) (a1 a2 a3 a4 : Option Addr) (n1 c1 n2 c2 n3 c3 n4 c4 : Nat) :
    Calls Tryz.prog 81 #[.agg #[.int .u8 8, .int .i64 h, .int .u8 vk, .int .i64 vn, .string vs, .slice a1 n1 c1, .int .i64 vr, .slice a2 n2 c2, .int .i64 n, .int .i64 l, .int .i64 tg, .int .i64 bi, .int .u8 s, .bool fu, .slice a3 n3 c3, .slice a4 n4 c4]] w fun e w' => e = .returned (.agg #[.int .u8 8, .int .i64 h, .int .u8 0, .int .i64 0, .string ⟨#[]⟩, .slice none 0 0, .int .i64 0, .slice none 0 0, .int .i64 n, .int .i64 l, .int .i64 0, .int .i64 0, .int .u8 0, .bool false, .slice none 0 0, .slice none 0 0]) ∧ Below w.heap.size w w' := by
  go_enter Tryz.func81, Tryz.ntmps81
  go_wp2
  go_region
  all_goals go_wp2
  all_goals refine bodyPost_ret (results_What rfl _ _ _ _ _ rfl (blk_at1d _ _ _ _ rfl) rfl) rfl ⟨rfl, by go_grown⟩

set_option maxRecDepth 8000 in
theorem bare_9 (w : World) (h vn vr n l tg bi vk s : Int) (vs : ByteArray) (fu : Bool) (a1 a2 a3 a4 : Option Addr) (n1 c1 n2 c2 n3 c3 n4 c4 : Nat) :
    Calls Tryz.prog 81 #[.agg #[.int .u8 9, .int .i64 h, .int .u8 vk, .int .i64 vn, .string vs, .slice a1 n1 c1, .int .i64 vr, .slice a2 n2 c2, .int .i64 n, .int .i64 l, .int .i64 tg, .int .i64 bi, .int .u8 s, .bool fu, .slice a3 n3 c3, .slice a4 n4 c4]] w fun e w' => e = .returned (.agg #[.int .u8 9, .int .i64 h, .int .u8 0, .int .i64 0, .string ⟨#[]⟩, .slice none 0 0, .int .i64 0, .slice none 0 0, .int .i64 n, .int .i64 0, .int .i64 tg, .int .i64 0, .int .u8 0, .bool false, .slice none 0 0, .slice none 0 0]) ∧ Below w.heap.size w w' := by
  go_enter Tryz.func81, Tryz.ntmps81
  go_wp2
  go_region
  all_goals go_wp2
  all_goals refine bodyPost_ret (results_What rfl _ _ _ _ _ rfl (blk_at1d _ _ _ _ rfl) rfl) rfl ⟨rfl, by go_grown⟩

set_option maxRecDepth 8000 in
theorem bare_10 (w : World) (h vn vr n l tg bi vk s : Int) (vs : ByteArray) (fu : Bool) (a1 a2 a3 a4 : Option Addr) (n1 c1 n2 c2 n3 c3 n4 c4 : Nat) :
    Calls Tryz.prog 81 #[.agg #[.int .u8 10, .int .i64 h, .int .u8 vk, .int .i64 vn, .string vs, .slice a1 n1 c1, .int .i64 vr, .slice a2 n2 c2, .int .i64 n, .int .i64 l, .int .i64 tg, .int .i64 bi, .int .u8 s, .bool fu, .slice a3 n3 c3, .slice a4 n4 c4]] w fun e w' => e = .returned (.agg #[.int .u8 10, .int .i64 h, .int .u8 vk, .int .i64 vn, .string vs, .slice a1 n1 c1, .int .i64 vr, .slice none 0 0, .int .i64 0, .int .i64 0, .int .i64 0, .int .i64 0, .int .u8 0, .bool fu, .slice none 0 0, .slice none 0 0]) ∧ Below w.heap.size w w' := by
  go_enter Tryz.func81, Tryz.ntmps81
  go_wp2
  go_region
  all_goals go_wp2
  all_goals refine bodyPost_ret (results_What rfl _ _ _ _ _ rfl (blk_at1d _ _ _ _ rfl) rfl) rfl ⟨rfl, by go_grown⟩

set_option maxRecDepth 8000 in
theorem bare_11 (w : World) (h vn vr n l tg bi vk s : Int) (vs : ByteArray) (fu : Bool) (a1 a2 a3 a4 : Option Addr) (n1 c1 n2 c2 n3 c3 n4 c4 : Nat) :
    Calls Tryz.prog 81 #[.agg #[.int .u8 11, .int .i64 h, .int .u8 vk, .int .i64 vn, .string vs, .slice a1 n1 c1, .int .i64 vr, .slice a2 n2 c2, .int .i64 n, .int .i64 l, .int .i64 tg, .int .i64 bi, .int .u8 s, .bool fu, .slice a3 n3 c3, .slice a4 n4 c4]] w fun e w' => e = .returned (.agg #[.int .u8 11, .int .i64 h, .int .u8 0, .int .i64 0, .string ⟨#[]⟩, .slice none 0 0, .int .i64 0, .slice none 0 0, .int .i64 0, .int .i64 0, .int .i64 tg, .int .i64 0, .int .u8 0, .bool false, .slice none 0 0, .slice none 0 0]) ∧ Below w.heap.size w w' := by
  go_enter Tryz.func81, Tryz.ntmps81
  go_wp2
  refine bodyPost_ret (results_What rfl _ _ _ _ _ rfl (blk_at1 _ _ _ _ rfl) rfl) rfl ⟨rfl, by go_grown⟩

set_option maxRecDepth 8000 in
theorem bare_12 (w : World) (h vn vr n l tg bi vk s : Int) (vs : ByteArray) (fu : Bool) (a1 a2 a3 a4 : Option Addr) (n1 c1 n2 c2 n3 c3 n4 c4 : Nat) :
    Calls Tryz.prog 81 #[.agg #[.int .u8 12, .int .i64 h, .int .u8 vk, .int .i64 vn, .string vs, .slice a1 n1 c1, .int .i64 vr, .slice a2 n2 c2, .int .i64 n, .int .i64 l, .int .i64 tg, .int .i64 bi, .int .u8 s, .bool fu, .slice a3 n3 c3, .slice a4 n4 c4]] w fun e w' => e = .returned (.agg #[.int .u8 12, .int .i64 h, .int .u8 0, .int .i64 0, .string ⟨#[]⟩, .slice none 0 0, .int .i64 0, .slice none 0 0, .int .i64 0, .int .i64 0, .int .i64 0, .int .i64 0, .int .u8 0, .bool false, .slice a3 n3 c3, .slice a4 n4 c4]) ∧ Below w.heap.size w w' := by
  go_enter Tryz.func81, Tryz.ntmps81
  go_wp2
  go_region
  all_goals go_wp2
  all_goals refine bodyPost_ret (results_What rfl _ _ _ _ _ rfl (blk_at1d _ _ _ _ rfl) rfl) rfl ⟨rfl, by go_grown⟩

set_option maxRecDepth 8000 in
theorem bare_13 (w : World) (h vn vr n l tg bi vk s : Int) (vs : ByteArray) (fu : Bool) (a1 a2 a3 a4 : Option Addr) (n1 c1 n2 c2 n3 c3 n4 c4 : Nat) :
    Calls Tryz.prog 81 #[.agg #[.int .u8 13, .int .i64 h, .int .u8 vk, .int .i64 vn, .string vs, .slice a1 n1 c1, .int .i64 vr, .slice a2 n2 c2, .int .i64 n, .int .i64 l, .int .i64 tg, .int .i64 bi, .int .u8 s, .bool fu, .slice a3 n3 c3, .slice a4 n4 c4]] w fun e w' => e = .returned (.agg #[.int .u8 13, .int .i64 h, .int .u8 0, .int .i64 0, .string ⟨#[]⟩, .slice none 0 0, .int .i64 0, .slice none 0 0, .int .i64 0, .int .i64 0, .int .i64 tg, .int .i64 0, .int .u8 0, .bool fu, .slice none 0 0, .slice none 0 0]) ∧ Below w.heap.size w w' := by
  go_enter Tryz.func81, Tryz.ntmps81
  go_wp2
  go_region
  all_goals go_wp2
  all_goals refine bodyPost_ret (results_What rfl _ _ _ _ _ rfl (blk_at1d _ _ _ _ rfl) rfl) rfl ⟨rfl, by go_grown⟩

set_option maxRecDepth 8000 in
theorem bare_14 (w : World) (h vn vr n l tg bi vk s : Int) (vs : ByteArray) (fu : Bool) (a1 a2 a3 a4 : Option Addr) (n1 c1 n2 c2 n3 c3 n4 c4 : Nat) :
    Calls Tryz.prog 81 #[.agg #[.int .u8 14, .int .i64 h, .int .u8 vk, .int .i64 vn, .string vs, .slice a1 n1 c1, .int .i64 vr, .slice a2 n2 c2, .int .i64 n, .int .i64 l, .int .i64 tg, .int .i64 bi, .int .u8 s, .bool fu, .slice a3 n3 c3, .slice a4 n4 c4]] w fun e w' => e = .returned (.agg #[.int .u8 14, .int .i64 0, .int .u8 0, .int .i64 0, .string ⟨#[]⟩, .slice none 0 0, .int .i64 0, .slice none 0 0, .int .i64 0, .int .i64 0, .int .i64 tg, .int .i64 0, .int .u8 s, .bool false, .slice none 0 0, .slice none 0 0]) ∧ Below w.heap.size w w' := by
  go_enter Tryz.func81, Tryz.ntmps81
  go_wp2
  refine bodyPost_ret (results_What rfl _ _ _ _ _ rfl (blk_at1 _ _ _ _ rfl) rfl) rfl ⟨rfl, by go_grown⟩

set_option maxRecDepth 8000 in
theorem bare_15 (w : World) (h vn vr n l tg bi vk s : Int) (vs : ByteArray) (fu : Bool) (a1 a2 a3 a4 : Option Addr) (n1 c1 n2 c2 n3 c3 n4 c4 : Nat) :
    Calls Tryz.prog 81 #[.agg #[.int .u8 15, .int .i64 h, .int .u8 vk, .int .i64 vn, .string vs, .slice a1 n1 c1, .int .i64 vr, .slice a2 n2 c2, .int .i64 n, .int .i64 l, .int .i64 tg, .int .i64 bi, .int .u8 s, .bool fu, .slice a3 n3 c3, .slice a4 n4 c4]] w fun e w' => e = .returned (.agg #[.int .u8 15, .int .i64 h, .int .u8 0, .int .i64 0, .string ⟨#[]⟩, .slice none 0 0, .int .i64 0, .slice none 0 0, .int .i64 0, .int .i64 0, .int .i64 tg, .int .i64 bi, .int .u8 0, .bool false, .slice none 0 0, .slice none 0 0]) ∧ Below w.heap.size w w' := by
  go_enter Tryz.func81, Tryz.ntmps81
  go_wp2
  go_region
  all_goals go_wp2
  all_goals refine bodyPost_ret (results_What rfl _ _ _ _ _ rfl (blk_at1d _ _ _ _ rfl) rfl) rfl ⟨rfl, by go_grown⟩

set_option maxRecDepth 8000 in
theorem bare_16 (w : World) (h vn vr n l tg bi vk s : Int) (vs : ByteArray) (fu : Bool) (a1 a2 a3 a4 : Option Addr) (n1 c1 n2 c2 n3 c3 n4 c4 : Nat) :
    Calls Tryz.prog 81 #[.agg #[.int .u8 16, .int .i64 h, .int .u8 vk, .int .i64 vn, .string vs, .slice a1 n1 c1, .int .i64 vr, .slice a2 n2 c2, .int .i64 n, .int .i64 l, .int .i64 tg, .int .i64 bi, .int .u8 s, .bool fu, .slice a3 n3 c3, .slice a4 n4 c4]] w fun e w' => e = .returned (.agg #[.int .u8 16, .int .i64 h, .int .u8 0, .int .i64 0, .string ⟨#[]⟩, .slice none 0 0, .int .i64 0, .slice none 0 0, .int .i64 0, .int .i64 0, .int .i64 tg, .int .i64 bi, .int .u8 0, .bool false, .slice none 0 0, .slice none 0 0]) ∧ Below w.heap.size w w' := by
  go_enter Tryz.func81, Tryz.ntmps81
  go_wp2
  go_region
  all_goals go_wp2
  all_goals refine bodyPost_ret (results_What rfl _ _ _ _ _ rfl (blk_at1d _ _ _ _ rfl) rfl) rfl ⟨rfl, by go_grown⟩

end Go.Proofs.YtifmifjbebpomaaGreatDoor
/- form: a What that is one. One theorem a kind; printed by gen_form.py A|B|C. -/
namespace Go.Proofs.YtifmifjbebpomaaGreatDoor
open Go.RowKit Go.ChangeMaps Go.MapKept
variable {w : World} {p : Nat} {M : WM} {F : Nat → Prop}

set_option maxHeartbeats 1000000 in
set_option maxRecDepth 8000 in
theorem form_1 (hW : IsW w p M F) (h vk vn : Int) (hs : sideB M h = true) (hv : Plain vk vn) : Calls Tryz.prog 47 #[.pointer (some ⟨p, 0, none⟩), .agg #[.int .u8 1, .int .i64 h, .int .u8 vk, .int .i64 vn, .string ⟨#[]⟩, .slice none 0 0, .int .i64 0, .slice none 0 0, .int .i64 0, .int .i64 0, .int .i64 0, .int .i64 0, .int .u8 0, .bool false, .slice none 0 0, .slice none 0 0]] w fun e w' => e = .returned (.bool true) ∧ Below w.heap.size w w' := by
  have hP : Plain vk vn := hv
  have hV : ∀ w : World, Calls Tryz.prog 83 #[.agg #[.int .u8 vk, .int .i64 vn, .string ⟨#[]⟩, .slice none 0 0, .int .i64 0]] w fun e w' => e = .returned (.bool true) ∧ Below w.heap.size w w' := fun w => vMay_W w vk vn hP
  rcases hv with ⟨rfl, rfl⟩ | rfl
  · go_enter Tryz.func47, Tryz.ntmps47
    go_wp2_with fail
    refine (bare_1 _ h 0 0 0 0 0 0 0 0 ⟨#[]⟩ false none none none none 0 0 0 0 0 0 0 0).mono ?_
    rintro e w1 ⟨rfl, hb1⟩
    have B1 := below_blk hb1 (blk_new _ _)
    obtain ⟨a0, a1, a2, a3, a4, a5, a6, a7, a8, a9, a10, a11, a12, a13, a14, a15⟩ := cells16 B1
    have hz1 : w.heap.size < w1.heap.size := by have := hb1.size; simp at this; omega
    have HB1 : Hid (Below w.heap.size w w1) := ((Below.refl _ _).alloc (Nat.le_refl _) _).trans (hb1.mono (by simp; try omega))
    clear hb1
    go_wp2_with fail
    refine (blank0_W _).mono ?_
    rintro e w2 ⟨rfl, hb2⟩
    have B2 := below_blk hb2 (blk_old _ _ B1)
    clear a0 a1 a2 a3 a4 a5 a6 a7 a8 a9 a10 a11 a12 a13 a14 a15
    obtain ⟨a0, a1, a2, a3, a4, a5, a6, a7, a8, a9, a10, a11, a12, a13, a14, a15⟩ := cells16 B2
    have hz2 : w.heap.size < w2.heap.size := by have := hb2.size; simp at this; omega
    have HB2 : Hid (Below w.heap.size w w2) := (HB1.out.alloc (by first | omega | (simp; try omega)) _).trans (hb2.mono (by first | omega | (simp; try omega)))
    clear hb2 B1 HB1 hz1
    go_wp2_with fail
    refine (blank0_W _).mono ?_
    rintro e w3 ⟨rfl, hb3⟩
    have B3 := below_blk hb3 B2
    clear a0 a1 a2 a3 a4 a5 a6 a7 a8 a9 a10 a11 a12 a13 a14 a15
    obtain ⟨a0, a1, a2, a3, a4, a5, a6, a7, a8, a9, a10, a11, a12, a13, a14, a15⟩ := cells16 B3
    have hz3 : w.heap.size < w3.heap.size := by have := hb3.size; omega
    have HB3 : Hid (Below w.heap.size w w3) := HB2.out.trans (hb3.mono (by first | omega | (simp; try omega)))
    clear hb3 B2 HB2 hz2
    go_wp2_with fail
    refine (side_W (hW.below HB3.out) h).mono ?_
    rw [hs]
    rintro e _ ⟨rfl, rfl⟩
    go_wp2_with fail
    refine (hV _).mono ?_
    rintro e w4 ⟨rfl, hb4⟩
    have B4 := below_blk hb4 B3
    clear a0 a1 a2 a3 a4 a5 a6 a7 a8 a9 a10 a11 a12 a13 a14 a15
    obtain ⟨a0, a1, a2, a3, a4, a5, a6, a7, a8, a9, a10, a11, a12, a13, a14, a15⟩ := cells16 B4
    have hz4 : w.heap.size < w4.heap.size := by have := hb4.size; omega
    have HB4 : Hid (Below w.heap.size w w4) := HB3.out.trans (hb4.mono (by first | omega | (simp; try omega)))
    clear hb4 B3 HB3 hz3
    go_wp2_with fail
    refine (vOf_W _).mono ?_
    rintro e w5 ⟨rfl, hb5⟩
    have B5 := below_blk hb5 B4
    clear a0 a1 a2 a3 a4 a5 a6 a7 a8 a9 a10 a11 a12 a13 a14 a15
    obtain ⟨a0, a1, a2, a3, a4, a5, a6, a7, a8, a9, a10, a11, a12, a13, a14, a15⟩ := cells16 B5
    have hz5 : w.heap.size < w5.heap.size := by have := hb5.size; omega
    have HB5 : Hid (Below w.heap.size w w5) := HB4.out.trans (hb5.mono (by first | omega | (simp; try omega)))
    clear hb5 B4 HB4 hz4
    go_wp2_with fail
    go_rounds 1
    have hB := HB5.out
    have hZ : w.heap.size ≤ w5.heap.size := by omega
    go_ret
    exact ⟨rfl, by go_grown⟩
  · go_enter Tryz.func47, Tryz.ntmps47
    go_wp2_with fail
    refine (bare_1 _ h vn 0 0 0 0 0 1 0 ⟨#[]⟩ false none none none none 0 0 0 0 0 0 0 0).mono ?_
    rintro e w1 ⟨rfl, hb1⟩
    have B1 := below_blk hb1 (blk_new _ _)
    obtain ⟨a0, a1, a2, a3, a4, a5, a6, a7, a8, a9, a10, a11, a12, a13, a14, a15⟩ := cells16 B1
    have hz1 : w.heap.size < w1.heap.size := by have := hb1.size; simp at this; omega
    have HB1 : Hid (Below w.heap.size w w1) := ((Below.refl _ _).alloc (Nat.le_refl _) _).trans (hb1.mono (by simp; try omega))
    clear hb1
    go_wp2_with fail
    refine (blank1_W _ vn).mono ?_
    rintro e w2 ⟨rfl, hb2⟩
    have B2 := below_blk hb2 (blk_old _ _ B1)
    clear a0 a1 a2 a3 a4 a5 a6 a7 a8 a9 a10 a11 a12 a13 a14 a15
    obtain ⟨a0, a1, a2, a3, a4, a5, a6, a7, a8, a9, a10, a11, a12, a13, a14, a15⟩ := cells16 B2
    have hz2 : w.heap.size < w2.heap.size := by have := hb2.size; simp at this; omega
    have HB2 : Hid (Below w.heap.size w w2) := (HB1.out.alloc (by first | omega | (simp; try omega)) _).trans (hb2.mono (by first | omega | (simp; try omega)))
    clear hb2 B1 HB1 hz1
    go_wp2_with fail
    refine (side_W (hW.below HB2.out) h).mono ?_
    rw [hs]
    rintro e _ ⟨rfl, rfl⟩
    go_wp2_with fail
    refine (hV _).mono ?_
    rintro e w3 ⟨rfl, hb3⟩
    have B3 := below_blk hb3 B2
    clear a0 a1 a2 a3 a4 a5 a6 a7 a8 a9 a10 a11 a12 a13 a14 a15
    obtain ⟨a0, a1, a2, a3, a4, a5, a6, a7, a8, a9, a10, a11, a12, a13, a14, a15⟩ := cells16 B3
    have hz3 : w.heap.size < w3.heap.size := by have := hb3.size; omega
    have HB3 : Hid (Below w.heap.size w w3) := HB2.out.trans (hb3.mono (by first | omega | (simp; try omega)))
    clear hb3 B2 HB2 hz2
    go_wp2_with fail
    refine (vOf_W _).mono ?_
    rintro e w4 ⟨rfl, hb4⟩
    have B4 := below_blk hb4 B3
    clear a0 a1 a2 a3 a4 a5 a6 a7 a8 a9 a10 a11 a12 a13 a14 a15
    obtain ⟨a0, a1, a2, a3, a4, a5, a6, a7, a8, a9, a10, a11, a12, a13, a14, a15⟩ := cells16 B4
    have hz4 : w.heap.size < w4.heap.size := by have := hb4.size; omega
    have HB4 : Hid (Below w.heap.size w w4) := HB3.out.trans (hb4.mono (by first | omega | (simp; try omega)))
    clear hb4 B3 HB3 hz3
    go_wp2_with fail
    go_rounds 1
    have hB := HB4.out
    have hZ : w.heap.size ≤ w4.heap.size := by omega
    go_ret
    exact ⟨rfl, by go_grown⟩

set_option maxHeartbeats 1000000 in
set_option maxRecDepth 8000 in
theorem form_2 (hW : IsW w p M F) (h : Int) (hs : sideB M h = true) : Calls Tryz.prog 47 #[.pointer (some ⟨p, 0, none⟩), .agg #[.int .u8 2, .int .i64 h, .int .u8 0, .int .i64 0, .string ⟨#[]⟩, .slice none 0 0, .int .i64 0, .slice none 0 0, .int .i64 0, .int .i64 0, .int .i64 0, .int .i64 0, .int .u8 0, .bool false, .slice none 0 0, .slice none 0 0]] w fun e w' => e = .returned (.bool true) ∧ Below w.heap.size w w' := by
  have hV : ∀ w : World, Calls Tryz.prog 83 #[.agg #[.int .u8 0, .int .i64 0, .string ⟨#[]⟩, .slice none 0 0, .int .i64 0]] w fun e w' => e = .returned (.bool true) ∧ Below w.heap.size w w' := fun w => vMay_W w 0 0 (.inl ⟨rfl, rfl⟩)
  go_enter Tryz.func47, Tryz.ntmps47
  go_wp2_with fail
  refine (bare_2 _ h 0 0 0 0 0 0 0 0 ⟨#[]⟩ false none none none none 0 0 0 0 0 0 0 0).mono ?_
  rintro e w1 ⟨rfl, hb1⟩
  have B1 := below_blk hb1 (blk_new _ _)
  obtain ⟨a0, a1, a2, a3, a4, a5, a6, a7, a8, a9, a10, a11, a12, a13, a14, a15⟩ := cells16 B1
  have hz1 : w.heap.size < w1.heap.size := by have := hb1.size; simp at this; omega
  have HB1 : Hid (Below w.heap.size w w1) := ((Below.refl _ _).alloc (Nat.le_refl _) _).trans (hb1.mono (by simp; try omega))
  clear hb1
  go_wp2_with fail
  refine (blank0_W _).mono ?_
  rintro e w2 ⟨rfl, hb2⟩
  have B2 := below_blk hb2 (blk_old _ _ B1)
  clear a0 a1 a2 a3 a4 a5 a6 a7 a8 a9 a10 a11 a12 a13 a14 a15
  obtain ⟨a0, a1, a2, a3, a4, a5, a6, a7, a8, a9, a10, a11, a12, a13, a14, a15⟩ := cells16 B2
  have hz2 : w.heap.size < w2.heap.size := by have := hb2.size; simp at this; omega
  have HB2 : Hid (Below w.heap.size w w2) := (HB1.out.alloc (by first | omega | (simp; try omega)) _).trans (hb2.mono (by first | omega | (simp; try omega)))
  clear hb2 B1 HB1 hz1
  go_wp2_with fail
  refine (blank0_W _).mono ?_
  rintro e w3 ⟨rfl, hb3⟩
  have B3 := below_blk hb3 B2
  clear a0 a1 a2 a3 a4 a5 a6 a7 a8 a9 a10 a11 a12 a13 a14 a15
  obtain ⟨a0, a1, a2, a3, a4, a5, a6, a7, a8, a9, a10, a11, a12, a13, a14, a15⟩ := cells16 B3
  have hz3 : w.heap.size < w3.heap.size := by have := hb3.size; omega
  have HB3 : Hid (Below w.heap.size w w3) := HB2.out.trans (hb3.mono (by first | omega | (simp; try omega)))
  clear hb3 B2 HB2 hz2
  go_wp2_with fail
  refine (side_W (hW.below HB3.out) h).mono ?_
  rw [hs]
  rintro e _ ⟨rfl, rfl⟩
  go_wp2_with fail
  refine (hV _).mono ?_
  rintro e w4 ⟨rfl, hb4⟩
  have B4 := below_blk hb4 B3
  clear a0 a1 a2 a3 a4 a5 a6 a7 a8 a9 a10 a11 a12 a13 a14 a15
  obtain ⟨a0, a1, a2, a3, a4, a5, a6, a7, a8, a9, a10, a11, a12, a13, a14, a15⟩ := cells16 B4
  have hz4 : w.heap.size < w4.heap.size := by have := hb4.size; omega
  have HB4 : Hid (Below w.heap.size w w4) := HB3.out.trans (hb4.mono (by first | omega | (simp; try omega)))
  clear hb4 B3 HB3 hz3
  go_wp2_with fail
  refine (vOf_W _).mono ?_
  rintro e w5 ⟨rfl, hb5⟩
  have B5 := below_blk hb5 B4
  clear a0 a1 a2 a3 a4 a5 a6 a7 a8 a9 a10 a11 a12 a13 a14 a15
  obtain ⟨a0, a1, a2, a3, a4, a5, a6, a7, a8, a9, a10, a11, a12, a13, a14, a15⟩ := cells16 B5
  have hz5 : w.heap.size < w5.heap.size := by have := hb5.size; omega
  have HB5 : Hid (Below w.heap.size w w5) := HB4.out.trans (hb5.mono (by first | omega | (simp; try omega)))
  clear hb5 B4 HB4 hz4
  go_wp2_with fail
  go_rounds 1
  have hB := HB5.out
  have hZ : w.heap.size ≤ w5.heap.size := by omega
  go_ret
  exact ⟨rfl, by go_grown⟩

set_option maxHeartbeats 1000000 in
set_option maxRecDepth 8000 in
theorem form_4 (hW : IsW w p M F) (h : Int) (hs : sideB M h = true) : Calls Tryz.prog 47 #[.pointer (some ⟨p, 0, none⟩), .agg #[.int .u8 4, .int .i64 h, .int .u8 0, .int .i64 0, .string ⟨#[]⟩, .slice none 0 0, .int .i64 0, .slice none 0 0, .int .i64 0, .int .i64 0, .int .i64 0, .int .i64 0, .int .u8 0, .bool false, .slice none 0 0, .slice none 0 0]] w fun e w' => e = .returned (.bool true) ∧ Below w.heap.size w w' := by
  have hV : ∀ w : World, Calls Tryz.prog 83 #[.agg #[.int .u8 0, .int .i64 0, .string ⟨#[]⟩, .slice none 0 0, .int .i64 0]] w fun e w' => e = .returned (.bool true) ∧ Below w.heap.size w w' := fun w => vMay_W w 0 0 (.inl ⟨rfl, rfl⟩)
  go_enter Tryz.func47, Tryz.ntmps47
  go_wp2_with fail
  refine (bare_4 _ h 0 0 0 0 0 0 0 0 ⟨#[]⟩ false none none none none 0 0 0 0 0 0 0 0).mono ?_
  rintro e w1 ⟨rfl, hb1⟩
  have B1 := below_blk hb1 (blk_new _ _)
  obtain ⟨a0, a1, a2, a3, a4, a5, a6, a7, a8, a9, a10, a11, a12, a13, a14, a15⟩ := cells16 B1
  have hz1 : w.heap.size < w1.heap.size := by have := hb1.size; simp at this; omega
  have HB1 : Hid (Below w.heap.size w w1) := ((Below.refl _ _).alloc (Nat.le_refl _) _).trans (hb1.mono (by simp; try omega))
  clear hb1
  go_wp2_with fail
  refine (blank0_W _).mono ?_
  rintro e w2 ⟨rfl, hb2⟩
  have B2 := below_blk hb2 (blk_old _ _ B1)
  clear a0 a1 a2 a3 a4 a5 a6 a7 a8 a9 a10 a11 a12 a13 a14 a15
  obtain ⟨a0, a1, a2, a3, a4, a5, a6, a7, a8, a9, a10, a11, a12, a13, a14, a15⟩ := cells16 B2
  have hz2 : w.heap.size < w2.heap.size := by have := hb2.size; simp at this; omega
  have HB2 : Hid (Below w.heap.size w w2) := (HB1.out.alloc (by first | omega | (simp; try omega)) _).trans (hb2.mono (by first | omega | (simp; try omega)))
  clear hb2 B1 HB1 hz1
  go_wp2_with fail
  refine (blank0_W _).mono ?_
  rintro e w3 ⟨rfl, hb3⟩
  have B3 := below_blk hb3 B2
  clear a0 a1 a2 a3 a4 a5 a6 a7 a8 a9 a10 a11 a12 a13 a14 a15
  obtain ⟨a0, a1, a2, a3, a4, a5, a6, a7, a8, a9, a10, a11, a12, a13, a14, a15⟩ := cells16 B3
  have hz3 : w.heap.size < w3.heap.size := by have := hb3.size; omega
  have HB3 : Hid (Below w.heap.size w w3) := HB2.out.trans (hb3.mono (by first | omega | (simp; try omega)))
  clear hb3 B2 HB2 hz2
  go_wp2_with fail
  refine (side_W (hW.below HB3.out) h).mono ?_
  rw [hs]
  rintro e _ ⟨rfl, rfl⟩
  go_wp2_with fail
  refine (hV _).mono ?_
  rintro e w4 ⟨rfl, hb4⟩
  have B4 := below_blk hb4 B3
  clear a0 a1 a2 a3 a4 a5 a6 a7 a8 a9 a10 a11 a12 a13 a14 a15
  obtain ⟨a0, a1, a2, a3, a4, a5, a6, a7, a8, a9, a10, a11, a12, a13, a14, a15⟩ := cells16 B4
  have hz4 : w.heap.size < w4.heap.size := by have := hb4.size; omega
  have HB4 : Hid (Below w.heap.size w w4) := HB3.out.trans (hb4.mono (by first | omega | (simp; try omega)))
  clear hb4 B3 HB3 hz3
  go_wp2_with fail
  refine (vOf_W _).mono ?_
  rintro e w5 ⟨rfl, hb5⟩
  have B5 := below_blk hb5 B4
  clear a0 a1 a2 a3 a4 a5 a6 a7 a8 a9 a10 a11 a12 a13 a14 a15
  obtain ⟨a0, a1, a2, a3, a4, a5, a6, a7, a8, a9, a10, a11, a12, a13, a14, a15⟩ := cells16 B5
  have hz5 : w.heap.size < w5.heap.size := by have := hb5.size; omega
  have HB5 : Hid (Below w.heap.size w w5) := HB4.out.trans (hb5.mono (by first | omega | (simp; try omega)))
  clear hb5 B4 HB4 hz4
  go_wp2_with fail
  go_rounds 1
  have hB := HB5.out
  have hZ : w.heap.size ≤ w5.heap.size := by omega
  go_ret
  exact ⟨rfl, by go_grown⟩

set_option maxHeartbeats 1000000 in
set_option maxRecDepth 8000 in
theorem form_5 (hW : IsW w p M F) (h : Int) (hs : sideB M h = true) : Calls Tryz.prog 47 #[.pointer (some ⟨p, 0, none⟩), .agg #[.int .u8 5, .int .i64 h, .int .u8 0, .int .i64 0, .string ⟨#[]⟩, .slice none 0 0, .int .i64 0, .slice none 0 0, .int .i64 0, .int .i64 0, .int .i64 0, .int .i64 0, .int .u8 0, .bool false, .slice none 0 0, .slice none 0 0]] w fun e w' => e = .returned (.bool true) ∧ Below w.heap.size w w' := by
  have hV : ∀ w : World, Calls Tryz.prog 83 #[.agg #[.int .u8 0, .int .i64 0, .string ⟨#[]⟩, .slice none 0 0, .int .i64 0]] w fun e w' => e = .returned (.bool true) ∧ Below w.heap.size w w' := fun w => vMay_W w 0 0 (.inl ⟨rfl, rfl⟩)
  go_enter Tryz.func47, Tryz.ntmps47
  go_wp2_with fail
  refine (bare_5 _ h 0 0 0 0 0 0 0 0 ⟨#[]⟩ false none none none none 0 0 0 0 0 0 0 0).mono ?_
  rintro e w1 ⟨rfl, hb1⟩
  have B1 := below_blk hb1 (blk_new _ _)
  obtain ⟨a0, a1, a2, a3, a4, a5, a6, a7, a8, a9, a10, a11, a12, a13, a14, a15⟩ := cells16 B1
  have hz1 : w.heap.size < w1.heap.size := by have := hb1.size; simp at this; omega
  have HB1 : Hid (Below w.heap.size w w1) := ((Below.refl _ _).alloc (Nat.le_refl _) _).trans (hb1.mono (by simp; try omega))
  clear hb1
  go_wp2_with fail
  refine (blank0_W _).mono ?_
  rintro e w2 ⟨rfl, hb2⟩
  have B2 := below_blk hb2 (blk_old _ _ B1)
  clear a0 a1 a2 a3 a4 a5 a6 a7 a8 a9 a10 a11 a12 a13 a14 a15
  obtain ⟨a0, a1, a2, a3, a4, a5, a6, a7, a8, a9, a10, a11, a12, a13, a14, a15⟩ := cells16 B2
  have hz2 : w.heap.size < w2.heap.size := by have := hb2.size; simp at this; omega
  have HB2 : Hid (Below w.heap.size w w2) := (HB1.out.alloc (by first | omega | (simp; try omega)) _).trans (hb2.mono (by first | omega | (simp; try omega)))
  clear hb2 B1 HB1 hz1
  go_wp2_with fail
  refine (blank0_W _).mono ?_
  rintro e w3 ⟨rfl, hb3⟩
  have B3 := below_blk hb3 B2
  clear a0 a1 a2 a3 a4 a5 a6 a7 a8 a9 a10 a11 a12 a13 a14 a15
  obtain ⟨a0, a1, a2, a3, a4, a5, a6, a7, a8, a9, a10, a11, a12, a13, a14, a15⟩ := cells16 B3
  have hz3 : w.heap.size < w3.heap.size := by have := hb3.size; omega
  have HB3 : Hid (Below w.heap.size w w3) := HB2.out.trans (hb3.mono (by first | omega | (simp; try omega)))
  clear hb3 B2 HB2 hz2
  go_wp2_with fail
  refine (side_W (hW.below HB3.out) h).mono ?_
  rw [hs]
  rintro e _ ⟨rfl, rfl⟩
  go_wp2_with fail
  refine (hV _).mono ?_
  rintro e w4 ⟨rfl, hb4⟩
  have B4 := below_blk hb4 B3
  clear a0 a1 a2 a3 a4 a5 a6 a7 a8 a9 a10 a11 a12 a13 a14 a15
  obtain ⟨a0, a1, a2, a3, a4, a5, a6, a7, a8, a9, a10, a11, a12, a13, a14, a15⟩ := cells16 B4
  have hz4 : w.heap.size < w4.heap.size := by have := hb4.size; omega
  have HB4 : Hid (Below w.heap.size w w4) := HB3.out.trans (hb4.mono (by first | omega | (simp; try omega)))
  clear hb4 B3 HB3 hz3
  go_wp2_with fail
  refine (vOf_W _).mono ?_
  rintro e w5 ⟨rfl, hb5⟩
  have B5 := below_blk hb5 B4
  clear a0 a1 a2 a3 a4 a5 a6 a7 a8 a9 a10 a11 a12 a13 a14 a15
  obtain ⟨a0, a1, a2, a3, a4, a5, a6, a7, a8, a9, a10, a11, a12, a13, a14, a15⟩ := cells16 B5
  have hz5 : w.heap.size < w5.heap.size := by have := hb5.size; omega
  have HB5 : Hid (Below w.heap.size w w5) := HB4.out.trans (hb5.mono (by first | omega | (simp; try omega)))
  clear hb5 B4 HB4 hz4
  go_wp2_with fail
  go_rounds 1
  have hB := HB5.out
  have hZ : w.heap.size ≤ w5.heap.size := by omega
  go_ret
  exact ⟨rfl, by go_grown⟩

set_option maxHeartbeats 1000000 in
set_option maxRecDepth 8000 in
theorem form_6 (hW : IsW w p M F) (h tg : Int) (hs : sideB M h = true) : Calls Tryz.prog 47 #[.pointer (some ⟨p, 0, none⟩), .agg #[.int .u8 6, .int .i64 h, .int .u8 0, .int .i64 0, .string ⟨#[]⟩, .slice none 0 0, .int .i64 0, .slice none 0 0, .int .i64 0, .int .i64 0, .int .i64 tg, .int .i64 0, .int .u8 0, .bool false, .slice none 0 0, .slice none 0 0]] w fun e w' => e = .returned (.bool true) ∧ Below w.heap.size w w' := by
  have hV : ∀ w : World, Calls Tryz.prog 83 #[.agg #[.int .u8 0, .int .i64 0, .string ⟨#[]⟩, .slice none 0 0, .int .i64 0]] w fun e w' => e = .returned (.bool true) ∧ Below w.heap.size w w' := fun w => vMay_W w 0 0 (.inl ⟨rfl, rfl⟩)
  go_enter Tryz.func47, Tryz.ntmps47
  go_wp2_with fail
  refine (bare_6 _ h 0 0 0 0 tg 0 0 0 ⟨#[]⟩ false none none none none 0 0 0 0 0 0 0 0).mono ?_
  rintro e w1 ⟨rfl, hb1⟩
  have B1 := below_blk hb1 (blk_new _ _)
  obtain ⟨a0, a1, a2, a3, a4, a5, a6, a7, a8, a9, a10, a11, a12, a13, a14, a15⟩ := cells16 B1
  have hz1 : w.heap.size < w1.heap.size := by have := hb1.size; simp at this; omega
  have HB1 : Hid (Below w.heap.size w w1) := ((Below.refl _ _).alloc (Nat.le_refl _) _).trans (hb1.mono (by simp; try omega))
  clear hb1
  go_wp2_with fail
  refine (blank0_W _).mono ?_
  rintro e w2 ⟨rfl, hb2⟩
  have B2 := below_blk hb2 (blk_old _ _ B1)
  clear a0 a1 a2 a3 a4 a5 a6 a7 a8 a9 a10 a11 a12 a13 a14 a15
  obtain ⟨a0, a1, a2, a3, a4, a5, a6, a7, a8, a9, a10, a11, a12, a13, a14, a15⟩ := cells16 B2
  have hz2 : w.heap.size < w2.heap.size := by have := hb2.size; simp at this; omega
  have HB2 : Hid (Below w.heap.size w w2) := (HB1.out.alloc (by first | omega | (simp; try omega)) _).trans (hb2.mono (by first | omega | (simp; try omega)))
  clear hb2 B1 HB1 hz1
  go_wp2_with fail
  refine (blank0_W _).mono ?_
  rintro e w3 ⟨rfl, hb3⟩
  have B3 := below_blk hb3 B2
  clear a0 a1 a2 a3 a4 a5 a6 a7 a8 a9 a10 a11 a12 a13 a14 a15
  obtain ⟨a0, a1, a2, a3, a4, a5, a6, a7, a8, a9, a10, a11, a12, a13, a14, a15⟩ := cells16 B3
  have hz3 : w.heap.size < w3.heap.size := by have := hb3.size; omega
  have HB3 : Hid (Below w.heap.size w w3) := HB2.out.trans (hb3.mono (by first | omega | (simp; try omega)))
  clear hb3 B2 HB2 hz2
  go_wp2_with fail
  refine (side_W (hW.below HB3.out) h).mono ?_
  rw [hs]
  rintro e _ ⟨rfl, rfl⟩
  go_wp2_with fail
  refine (hV _).mono ?_
  rintro e w4 ⟨rfl, hb4⟩
  have B4 := below_blk hb4 B3
  clear a0 a1 a2 a3 a4 a5 a6 a7 a8 a9 a10 a11 a12 a13 a14 a15
  obtain ⟨a0, a1, a2, a3, a4, a5, a6, a7, a8, a9, a10, a11, a12, a13, a14, a15⟩ := cells16 B4
  have hz4 : w.heap.size < w4.heap.size := by have := hb4.size; omega
  have HB4 : Hid (Below w.heap.size w w4) := HB3.out.trans (hb4.mono (by first | omega | (simp; try omega)))
  clear hb4 B3 HB3 hz3
  go_wp2_with fail
  refine (vOf_W _).mono ?_
  rintro e w5 ⟨rfl, hb5⟩
  have B5 := below_blk hb5 B4
  clear a0 a1 a2 a3 a4 a5 a6 a7 a8 a9 a10 a11 a12 a13 a14 a15
  obtain ⟨a0, a1, a2, a3, a4, a5, a6, a7, a8, a9, a10, a11, a12, a13, a14, a15⟩ := cells16 B5
  have hz5 : w.heap.size < w5.heap.size := by have := hb5.size; omega
  have HB5 : Hid (Below w.heap.size w w5) := HB4.out.trans (hb5.mono (by first | omega | (simp; try omega)))
  clear hb5 B4 HB4 hz4
  go_wp2_with fail
  go_rounds 1
  have hB := HB5.out
  have hZ : w.heap.size ≤ w5.heap.size := by omega
  go_ret
  exact ⟨rfl, by go_grown⟩

end Go.Proofs.YtifmifjbebpomaaGreatDoor
