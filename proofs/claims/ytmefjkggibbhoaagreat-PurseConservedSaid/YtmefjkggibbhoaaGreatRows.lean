/-
  No cell of these rows narrows 'for every input' (looked for: loops, veiled, ifaces, maps, wideKeys, modest, calm, conditions, laid).
  DERIVED. THE GIVEN ROWS OF THIS SEAT. 4 by the template 'for every input the law returns true; each argument reads behind the call as it read before'; 0 by the template 'total and deterministic' (their statements: YtmefjkggibbhoaaGreatTotals.lean).
  GIVEN WITH THE SEED: the statements are not yours to turn. If you find one false, say at which input.
  Laid BY PROGRAM, IN A SANDBOX (cutbox-rows.mjs): the forced cells as the released guide's own fill.sh prints them over the translation db4c3a3f14fffd00… (all of the seat's roots in one cut). By AI agents, Wed Nov 11 2026. No macro, syntax, notation, axiom, sorry.
-/
import Derived.Test.YtmefjkggibbhoaaGreatChecked
import GoSem.Claim
import GoSem.ClaimJoined
import GoSem.ClaimMapViews
import Derived.JoinedTies
import Derived.KernelRfl
namespace Go.Proofs.YtmefjkggibbhoaaGreat
/- THE CELL 'sum', in the pinned program and in every row, IS THE sha256 OF THE DUMP (.gsa) THAT YtmefjkggibbhoaaGreatProg.lean LOADS. Nothing in Lean hashes anything: it is a label: what it is worth is what the hold of that sum in a sandbox is worth. -/
noncomputable def Tryz.pinned : Pinned := { name := "ytmefjkggibbhoaagreat", sum := "db4c3a3f14fffd0066f7e24ba68240a34778f70bf0aeaa06d321cacc18e1f23e", checked := Tryz.checked }
namespace Rows
def none {H : Type} : Left H := { results := [], args := [] }

/-- 'posternlaw13.TapOthers': WHATEVER THE INPUT: true; the input reads as it did. -/
def tapOthersSpec : ChangeSpec := { name := "tapOthers", fn := fun _ => fun
  | [d1, d2] => { results := [.lit (.bool true)], args := [d1, d2] }
  | _ => none }
def tapOthersRow : OpenClaim := { program := "ytmefjkggibbhoaagreat", sum := "db4c3a3f14fffd0066f7e24ba68240a34778f70bf0aeaa06d321cacc18e1f23e", func := "postern/posternlaw13.TapOthers", spec := "tapOthers", unfollowed := true, recurses := true, plainKeys := false, apart := false }
def TapOthersSaid : Prop := tapOthersRow.holds Tryz.pinned (OpenSpec.ofChange tapOthersSpec)

/-- ITS FALSE NEIGHBOUR: 'it returns false'. Refute it at one input. -/
def tapOthersWrong : ChangeSpec := { name := "tapOthers", fn := fun _ => fun
  | [d1, d2] => { results := [.lit (.bool false)], args := [d1, d2] }
  | _ => none }
def TapOthersWrongFalsely : Prop := tapOthersRow.holds Tryz.pinned (OpenSpec.ofChange tapOthersWrong)

/-- 'posternlaw13.TapNone': WHATEVER THE INPUT: true; the input reads as it did. -/
def tapNoneSpec : ChangeSpec := { name := "tapNone", fn := fun _ => fun
  | [d1, d2, d3] => { results := [.lit (.bool true)], args := [d1, d2, d3] }
  | _ => none }
def tapNoneRow : OpenClaim := { program := "ytmefjkggibbhoaagreat", sum := "db4c3a3f14fffd0066f7e24ba68240a34778f70bf0aeaa06d321cacc18e1f23e", func := "postern/posternlaw13.TapNone", spec := "tapNone", unfollowed := true, recurses := true, plainKeys := false, apart := false }
def TapNoneSaid : Prop := tapNoneRow.holds Tryz.pinned (OpenSpec.ofChange tapNoneSpec)

/-- ITS FALSE NEIGHBOUR: 'it returns false'. Refute it at one input. -/
def tapNoneWrong : ChangeSpec := { name := "tapNone", fn := fun _ => fun
  | [d1, d2, d3] => { results := [.lit (.bool false)], args := [d1, d2, d3] }
  | _ => none }
def TapNoneWrongFalsely : Prop := tapNoneRow.holds Tryz.pinned (OpenSpec.ofChange tapNoneWrong)

/-- 'posternlaw13.TapOrders': WHATEVER THE INPUT: true; the input reads as it did. -/
def tapOrdersSpec : ChangeSpec := { name := "tapOrders", fn := fun _ => fun
  | [d1, d2] => { results := [.lit (.bool true)], args := [d1, d2] }
  | _ => none }
def tapOrdersRow : OpenClaim := { program := "ytmefjkggibbhoaagreat", sum := "db4c3a3f14fffd0066f7e24ba68240a34778f70bf0aeaa06d321cacc18e1f23e", func := "postern/posternlaw13.TapOrders", spec := "tapOrders", unfollowed := true, recurses := true, plainKeys := false, apart := false }
def TapOrdersSaid : Prop := tapOrdersRow.holds Tryz.pinned (OpenSpec.ofChange tapOrdersSpec)

/-- ITS FALSE NEIGHBOUR: 'it returns false'. Refute it at one input. -/
def tapOrdersWrong : ChangeSpec := { name := "tapOrders", fn := fun _ => fun
  | [d1, d2] => { results := [.lit (.bool false)], args := [d1, d2] }
  | _ => none }
def TapOrdersWrongFalsely : Prop := tapOrdersRow.holds Tryz.pinned (OpenSpec.ofChange tapOrdersWrong)

/-- 'posternlaw10.PurseConserved': WHATEVER THE INPUT: true; the input reads as it did. -/
def purseConservedSpec : ChangeSpec := { name := "purseConserved", fn := fun _ => fun
  | [d1, d2] => { results := [.lit (.bool true)], args := [d1, d2] }
  | _ => none }
def purseConservedRow : OpenClaim := { program := "ytmefjkggibbhoaagreat", sum := "db4c3a3f14fffd0066f7e24ba68240a34778f70bf0aeaa06d321cacc18e1f23e", func := "postern/posternlaw10.PurseConserved", spec := "purseConserved", unfollowed := true, recurses := true, plainKeys := false, apart := false }
def PurseConservedSaid : Prop := purseConservedRow.holds Tryz.pinned (OpenSpec.ofChange purseConservedSpec)

/-- ITS FALSE NEIGHBOUR: 'it returns false'. Refute it at one input. -/
def purseConservedWrong : ChangeSpec := { name := "purseConserved", fn := fun _ => fun
  | [d1, d2] => { results := [.lit (.bool false)], args := [d1, d2] }
  | _ => none }
def PurseConservedWrongFalsely : Prop := purseConservedRow.holds Tryz.pinned (OpenSpec.ofChange purseConservedWrong)

/- THE SECOND FORM. 'bulk': how many values and letters a reading holds, each counted each time it is reached (what is shared counts as often as it is met; a slice's spare places count too). A statement '..UptoSaid' is the law's where the arguments, and the package variables that the reading takes, are together of bulk at most 1048576: NARROWER than '..Said'. Prove '..Said' where nothing that the law and all that it calls make is longer than what came in: it says more and counts as full. Else prove '..UptoSaid'. A law counts once. -/
mutual
def uptoBulk {H : Type} : DataW H → Nat
  | .lit (.string bytes) => bytes.length + 1
  | .lit _ => 1
  | .nil => 1
  | .ptr d => uptoBulk d + 1
  | .slice elems spare => uptoBulkAll elems + uptoBulkAll spare + 1
  | .agg parts => uptoBulkAll parts + 1
  | .iface _ d => uptoBulk d + 1
  | .map entries => uptoBulkEntries entries + 1
  | .held _ => 1
def uptoBulkAll {H : Type} : List (DataW H) → Nat
  | [] => 0
  | d :: r => uptoBulk d + uptoBulkAll r
def uptoBulkEntries {H : Type} : List (Lit × DataW H) → Nat
  | [] => 0
  | x :: r => uptoBulkEntry x + uptoBulkEntries r
def uptoBulkEntry {H : Type} : Lit × DataW H → Nat
  | (.string bytes, d) => bytes.length + uptoBulk d + 1
  | (_, d) => uptoBulk d + 1
 end
def uptoSmall : (H : Type) → List (DataW H) → Bool := fun _ ds => decide (uptoBulkAll ds ≤ 1048576)
def OpenSpec.upto (s : _root_.Go.ChangeSpec) : _root_.Go.OpenSpec := { _root_.Go.OpenSpec.ofChange s with cond := some uptoSmall }

/-- 'posternlaw13.TapOthers', WHERE WHAT IT READS IS OF BULK AT MOST 1048576: true; the input reads as it did. -/
def tapOthersUptoRow : OpenClaim := { program := "ytmefjkggibbhoaagreat", sum := "db4c3a3f14fffd0066f7e24ba68240a34778f70bf0aeaa06d321cacc18e1f23e", func := "postern/posternlaw13.TapOthers", spec := "tapOthers", unfollowed := true, recurses := true, plainKeys := false, apart := false, narrowed := true }
def TapOthersUptoSaid : Prop := tapOthersUptoRow.holds Tryz.pinned (OpenSpec.upto tapOthersSpec)

/-- 'posternlaw13.TapNone', WHERE WHAT IT READS IS OF BULK AT MOST 1048576: true; the input reads as it did. -/
def tapNoneUptoRow : OpenClaim := { program := "ytmefjkggibbhoaagreat", sum := "db4c3a3f14fffd0066f7e24ba68240a34778f70bf0aeaa06d321cacc18e1f23e", func := "postern/posternlaw13.TapNone", spec := "tapNone", unfollowed := true, recurses := true, plainKeys := false, apart := false, narrowed := true }
def TapNoneUptoSaid : Prop := tapNoneUptoRow.holds Tryz.pinned (OpenSpec.upto tapNoneSpec)

/-- 'posternlaw13.TapOrders', WHERE WHAT IT READS IS OF BULK AT MOST 1048576: true; the input reads as it did. -/
def tapOrdersUptoRow : OpenClaim := { program := "ytmefjkggibbhoaagreat", sum := "db4c3a3f14fffd0066f7e24ba68240a34778f70bf0aeaa06d321cacc18e1f23e", func := "postern/posternlaw13.TapOrders", spec := "tapOrders", unfollowed := true, recurses := true, plainKeys := false, apart := false, narrowed := true }
def TapOrdersUptoSaid : Prop := tapOrdersUptoRow.holds Tryz.pinned (OpenSpec.upto tapOrdersSpec)

/-- 'posternlaw10.PurseConserved', WHERE WHAT IT READS IS OF BULK AT MOST 1048576: true; the input reads as it did. -/
def purseConservedUptoRow : OpenClaim := { program := "ytmefjkggibbhoaagreat", sum := "db4c3a3f14fffd0066f7e24ba68240a34778f70bf0aeaa06d321cacc18e1f23e", func := "postern/posternlaw10.PurseConserved", spec := "purseConserved", unfollowed := true, recurses := true, plainKeys := false, apart := false, narrowed := true }
def PurseConservedUptoSaid : Prop := purseConservedUptoRow.holds Tryz.pinned (OpenSpec.upto purseConservedSpec)

end Rows
end Go.Proofs.YtmefjkggibbhoaaGreat
