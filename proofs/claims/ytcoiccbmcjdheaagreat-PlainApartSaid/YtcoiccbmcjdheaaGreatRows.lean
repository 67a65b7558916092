/-
  NARROWER THAN 'FOR EVERY INPUT', by the rows' own cells (each row's printed sentence says how): PlainApart: loops · PlainQueue: loops · PlainKeeps: loops.
  DERIVED. THE GIVEN ROWS OF THIS SEAT. 3 by the template 'for every input the law returns true; each argument reads behind the call as it read before'; 0 by the template 'total and deterministic' (their statements: YtcoiccbmcjdheaaGreatTotals.lean).
  GIVEN WITH THE SEED: the statements are not yours to turn. If you find one false, say at which input.
  Laid BY PROGRAM, IN A SANDBOX (cutbox-rows.mjs): the forced cells as the released guide's own fill.sh prints them over the translation 266a915ae116f3d2… (all of the seat's roots in one cut). By AI agents, Wed Nov 11 2026. No macro, syntax, notation, axiom, sorry.
-/
import Derived.Test.YtcoiccbmcjdheaaGreatChecked
import GoSem.Claim
import GoSem.ClaimJoined
import GoSem.ClaimMapViews
import Derived.JoinedTies
import Derived.KernelRfl
namespace Go.Proofs.YtcoiccbmcjdheaaGreat
/- THE CELL 'sum', in the pinned program and in every row, IS THE sha256 OF THE DUMP (.gsa) THAT YtcoiccbmcjdheaaGreatProg.lean LOADS. Nothing in Lean hashes anything: it is a label: what it is worth is what the hold of that sum in a sandbox is worth. -/
noncomputable def Tryz.pinned : Pinned := { name := "ytcoiccbmcjdheaagreat", sum := "266a915ae116f3d2c6cc80b49c3648cea1fb628e22951d681d890d66b259d025", checked := Tryz.checked }
namespace Rows
def none {H : Type} : Left H := { results := [], args := [] }

/-- 'posternlaw08.PlainApart': WHATEVER THE INPUT: true; the input reads as it did. -/
def plainApartSpec : ChangeSpec := { name := "plainApart", fn := fun _ => fun
  | [d1, d2, d3] => { results := [.lit (.bool true)], args := [d1, d2, d3] }
  | _ => none }
def plainApartRow : OpenClaim := { program := "ytcoiccbmcjdheaagreat", sum := "266a915ae116f3d2c6cc80b49c3648cea1fb628e22951d681d890d66b259d025", func := "postern/posternlaw08.PlainApart", spec := "plainApart", unfollowed := true, recurses := true, loops := true, plainKeys := false, apart := false }
def PlainApartSaid : Prop := plainApartRow.holds Tryz.pinned (OpenSpec.ofChange plainApartSpec)

/-- ITS FALSE NEIGHBOUR: 'it returns false'. Refute it at one input. -/
def plainApartWrong : ChangeSpec := { name := "plainApart", fn := fun _ => fun
  | [d1, d2, d3] => { results := [.lit (.bool false)], args := [d1, d2, d3] }
  | _ => none }
def PlainApartWrongFalsely : Prop := plainApartRow.holds Tryz.pinned (OpenSpec.ofChange plainApartWrong)

/-- 'posternlaw08.PlainQueue': WHATEVER THE INPUT: true; the input reads as it did. -/
def plainQueueSpec : ChangeSpec := { name := "plainQueue", fn := fun _ => fun
  | [d1, d2] => { results := [.lit (.bool true)], args := [d1, d2] }
  | _ => none }
def plainQueueRow : OpenClaim := { program := "ytcoiccbmcjdheaagreat", sum := "266a915ae116f3d2c6cc80b49c3648cea1fb628e22951d681d890d66b259d025", func := "postern/posternlaw08.PlainQueue", spec := "plainQueue", unfollowed := true, recurses := true, loops := true, plainKeys := false, apart := false }
def PlainQueueSaid : Prop := plainQueueRow.holds Tryz.pinned (OpenSpec.ofChange plainQueueSpec)

/-- ITS FALSE NEIGHBOUR: 'it returns false'. Refute it at one input. -/
def plainQueueWrong : ChangeSpec := { name := "plainQueue", fn := fun _ => fun
  | [d1, d2] => { results := [.lit (.bool false)], args := [d1, d2] }
  | _ => none }
def PlainQueueWrongFalsely : Prop := plainQueueRow.holds Tryz.pinned (OpenSpec.ofChange plainQueueWrong)

/-- 'posternlaw08.PlainKeeps': WHATEVER THE INPUT: true; the input reads as it did. -/
def plainKeepsSpec : ChangeSpec := { name := "plainKeeps", fn := fun _ => fun
  | [d] => { results := [.lit (.bool true)], args := [d] }
  | _ => none }
def plainKeepsRow : OpenClaim := { program := "ytcoiccbmcjdheaagreat", sum := "266a915ae116f3d2c6cc80b49c3648cea1fb628e22951d681d890d66b259d025", func := "postern/posternlaw08.PlainKeeps", spec := "plainKeeps", unfollowed := true, recurses := true, loops := true, plainKeys := false, apart := false }
def PlainKeepsSaid : Prop := plainKeepsRow.holds Tryz.pinned (OpenSpec.ofChange plainKeepsSpec)

/-- ITS FALSE NEIGHBOUR: 'it returns false'. Refute it at one input. -/
def plainKeepsWrong : ChangeSpec := { name := "plainKeeps", fn := fun _ => fun
  | [d] => { results := [.lit (.bool false)], args := [d] }
  | _ => none }
def PlainKeepsWrongFalsely : Prop := plainKeepsRow.holds Tryz.pinned (OpenSpec.ofChange plainKeepsWrong)

/- THE SECOND FORM. 'bulk': how many values and letters a reading holds, each counted each time it is reached (what is shared counts as often as it is met; a slice's spare places count too). A statement '..UptoSaid' is the law's where the arguments, and the package variables that the reading takes, are together of bulk at most 1048576: NARROWER than '..Said'. Prove '..Said' where nothing that the law and all that it calls make is longer than what came in: it says more and counts as full. Else prove '..UptoSaid'. A law counts once. -/
mutual
def uptoBulk {H : Type} : DataW H → Nat
  | .lit (.string bytes) => bytes.length + 1
  | .lit _ => 1
  | .nil => 1
  | .ptr d => uptoBulk d + 1
  | .slice elems spare => uptoBulkAll elems + uptoBulkAll spare + 1
  | .agg parts => uptoBulkAll parts + 1
  | .iface _ d => uptoBulk d + 1
  | .map entries => uptoBulkEntries entries + 1
  | .held _ => 1
def uptoBulkAll {H : Type} : List (DataW H) → Nat
  | [] => 0
  | d :: r => uptoBulk d + uptoBulkAll r
def uptoBulkEntries {H : Type} : List (Lit × DataW H) → Nat
  | [] => 0
  | x :: r => uptoBulkEntry x + uptoBulkEntries r
def uptoBulkEntry {H : Type} : Lit × DataW H → Nat
  | (.string bytes, d) => bytes.length + uptoBulk d + 1
  | (_, d) => uptoBulk d + 1
 end
def uptoSmall : (H : Type) → List (DataW H) → Bool := fun _ ds => decide (uptoBulkAll ds ≤ 1048576)
def OpenSpec.upto (s : _root_.Go.ChangeSpec) : _root_.Go.OpenSpec := { _root_.Go.OpenSpec.ofChange s with cond := some uptoSmall }

/-- 'posternlaw08.PlainApart', WHERE WHAT IT READS IS OF BULK AT MOST 1048576: true; the input reads as it did. -/
def plainApartUptoRow : OpenClaim := { program := "ytcoiccbmcjdheaagreat", sum := "266a915ae116f3d2c6cc80b49c3648cea1fb628e22951d681d890d66b259d025", func := "postern/posternlaw08.PlainApart", spec := "plainApart", unfollowed := true, recurses := true, loops := true, plainKeys := false, apart := false, narrowed := true }
def PlainApartUptoSaid : Prop := plainApartUptoRow.holds Tryz.pinned (OpenSpec.upto plainApartSpec)

/-- 'posternlaw08.PlainQueue', WHERE WHAT IT READS IS OF BULK AT MOST 1048576: true; the input reads as it did. -/
def plainQueueUptoRow : OpenClaim := { program := "ytcoiccbmcjdheaagreat", sum := "266a915ae116f3d2c6cc80b49c3648cea1fb628e22951d681d890d66b259d025", func := "postern/posternlaw08.PlainQueue", spec := "plainQueue", unfollowed := true, recurses := true, loops := true, plainKeys := false, apart := false, narrowed := true }
def PlainQueueUptoSaid : Prop := plainQueueUptoRow.holds Tryz.pinned (OpenSpec.upto plainQueueSpec)

/-- 'posternlaw08.PlainKeeps', WHERE WHAT IT READS IS OF BULK AT MOST 1048576: true; the input reads as it did. -/
def plainKeepsUptoRow : OpenClaim := { program := "ytcoiccbmcjdheaagreat", sum := "266a915ae116f3d2c6cc80b49c3648cea1fb628e22951d681d890d66b259d025", func := "postern/posternlaw08.PlainKeeps", spec := "plainKeeps", unfollowed := true, recurses := true, loops := true, plainKeys := false, apart := false, narrowed := true }
def PlainKeepsUptoSaid : Prop := plainKeepsUptoRow.holds Tryz.pinned (OpenSpec.upto plainKeepsSpec)

end Rows
end Go.Proofs.YtcoiccbmcjdheaaGreat
