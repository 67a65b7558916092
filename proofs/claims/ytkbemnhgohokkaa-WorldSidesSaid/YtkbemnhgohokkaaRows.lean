/-
  NARROWER THAN 'FOR EVERY INPUT', by the rows' own cells (each row's printed sentence says how): WorldFacets: loops.
  DERIVED. THE GIVEN ROWS OF THIS SEAT. 9 by the template 'for every input the law returns true; each argument reads behind the call as it read before'; 0 by the template 'total and deterministic' (their statements: YtkbemnhgohokkaaTotals.lean).
  GIVEN WITH THE SEED: the statements are not yours to turn. If you find one false, say at which input.
  Laid BY PROGRAM, IN A SANDBOX (cutbox-rows.mjs): the forced cells as the released guide's own fill.sh prints them over the translation 9d11ba60c3bd6f5c… (all of the seat's roots in one cut). By AI agents, Wed Nov 11 2026. No macro, syntax, notation, axiom, sorry.
-/
import Derived.Test.YtkbemnhgohokkaaChecked
import GoSem.Claim
import GoSem.ClaimJoined
import GoSem.ClaimMapViews
import Derived.JoinedTies
import Derived.KernelRfl
namespace Go.Proofs.Ytkbemnhgohokkaa
/- THE CELL 'sum', in the pinned program and in every row, IS THE sha256 OF THE DUMP (.gsa) THAT YtkbemnhgohokkaaProg.lean LOADS. Nothing in Lean hashes anything: it is a label: what it is worth is what the hold of that sum in a sandbox is worth. -/
noncomputable def Try.pinned : Pinned := { name := "ytkbemnhgohokkaa", sum := "9d11ba60c3bd6f5cf3d5b9f4e368b7bd83e73124b9d146def36b406e534864be", checked := Try.checked }
namespace Rows
def none {H : Type} : Left H := { results := [], args := [] }

/-- 'posternlaw07.WorldNames': WHATEVER THE INPUT: true; the input reads as it did. -/
def worldNamesSpec : ChangeSpec := { name := "worldNames", fn := fun _ => fun
  | [] => { results := [.lit (.bool true)], args := [] }
  | _ => none }
def worldNamesRow : OpenClaim := { program := "ytkbemnhgohokkaa", sum := "9d11ba60c3bd6f5cf3d5b9f4e368b7bd83e73124b9d146def36b406e534864be", func := "postern/posternlaw07.WorldNames", spec := "worldNames", unfollowed := true, recurses := true, plainKeys := false, apart := false }
def WorldNamesSaid : Prop := worldNamesRow.holds Try.pinned (OpenSpec.ofChange worldNamesSpec)

/-- ITS FALSE NEIGHBOUR: 'it returns false'. Refute it at one input. -/
def worldNamesWrong : ChangeSpec := { name := "worldNames", fn := fun _ => fun
  | [] => { results := [.lit (.bool false)], args := [] }
  | _ => none }
def WorldNamesWrongFalsely : Prop := worldNamesRow.holds Try.pinned (OpenSpec.ofChange worldNamesWrong)

/-- 'posternlaw07.WorldSides': WHATEVER THE INPUT: true; the input reads as it did. -/
def worldSidesSpec : ChangeSpec := { name := "worldSides", fn := fun _ => fun
  | [d1, d2, d3] => { results := [.lit (.bool true)], args := [d1, d2, d3] }
  | _ => none }
def worldSidesRow : OpenClaim := { program := "ytkbemnhgohokkaa", sum := "9d11ba60c3bd6f5cf3d5b9f4e368b7bd83e73124b9d146def36b406e534864be", func := "postern/posternlaw07.WorldSides", spec := "worldSides", unfollowed := true, recurses := true, plainKeys := false, apart := false }
def WorldSidesSaid : Prop := worldSidesRow.holds Try.pinned (OpenSpec.ofChange worldSidesSpec)

/-- ITS FALSE NEIGHBOUR: 'it returns false'. Refute it at one input. -/
def worldSidesWrong : ChangeSpec := { name := "worldSides", fn := fun _ => fun
  | [d1, d2, d3] => { results := [.lit (.bool false)], args := [d1, d2, d3] }
  | _ => none }
def WorldSidesWrongFalsely : Prop := worldSidesRow.holds Try.pinned (OpenSpec.ofChange worldSidesWrong)

/-- 'posternlaw13.TapNames': WHATEVER THE INPUT: true; the input reads as it did. -/
def tapNamesSpec : ChangeSpec := { name := "tapNames", fn := fun _ => fun
  | [] => { results := [.lit (.bool true)], args := [] }
  | _ => none }
def tapNamesRow : OpenClaim := { program := "ytkbemnhgohokkaa", sum := "9d11ba60c3bd6f5cf3d5b9f4e368b7bd83e73124b9d146def36b406e534864be", func := "postern/posternlaw13.TapNames", spec := "tapNames", unfollowed := true, recurses := true, plainKeys := false, apart := false }
def TapNamesSaid : Prop := tapNamesRow.holds Try.pinned (OpenSpec.ofChange tapNamesSpec)

/-- ITS FALSE NEIGHBOUR: 'it returns false'. Refute it at one input. -/
def tapNamesWrong : ChangeSpec := { name := "tapNames", fn := fun _ => fun
  | [] => { results := [.lit (.bool false)], args := [] }
  | _ => none }
def TapNamesWrongFalsely : Prop := tapNamesRow.holds Try.pinned (OpenSpec.ofChange tapNamesWrong)

/-- 'posternlaw07.WorldMany': WHATEVER THE INPUT: true; the input reads as it did. -/
def worldManySpec : ChangeSpec := { name := "worldMany", fn := fun _ => fun
  | [] => { results := [.lit (.bool true)], args := [] }
  | _ => none }
def worldManyRow : OpenClaim := { program := "ytkbemnhgohokkaa", sum := "9d11ba60c3bd6f5cf3d5b9f4e368b7bd83e73124b9d146def36b406e534864be", func := "postern/posternlaw07.WorldMany", spec := "worldMany", unfollowed := true, recurses := true, plainKeys := false, apart := false }
def WorldManySaid : Prop := worldManyRow.holds Try.pinned (OpenSpec.ofChange worldManySpec)

/-- ITS FALSE NEIGHBOUR: 'it returns false'. Refute it at one input. -/
def worldManyWrong : ChangeSpec := { name := "worldMany", fn := fun _ => fun
  | [] => { results := [.lit (.bool false)], args := [] }
  | _ => none }
def WorldManyWrongFalsely : Prop := worldManyRow.holds Try.pinned (OpenSpec.ofChange worldManyWrong)

/-- 'posternlaw07.WorldNumbers': WHATEVER THE INPUT: true; the input reads as it did. -/
def worldNumbersSpec : ChangeSpec := { name := "worldNumbers", fn := fun _ => fun
  | [d1, d2, d3] => { results := [.lit (.bool true)], args := [d1, d2, d3] }
  | _ => none }
def worldNumbersRow : OpenClaim := { program := "ytkbemnhgohokkaa", sum := "9d11ba60c3bd6f5cf3d5b9f4e368b7bd83e73124b9d146def36b406e534864be", func := "postern/posternlaw07.WorldNumbers", spec := "worldNumbers", unfollowed := true, recurses := true, plainKeys := false, apart := false }
def WorldNumbersSaid : Prop := worldNumbersRow.holds Try.pinned (OpenSpec.ofChange worldNumbersSpec)

/-- ITS FALSE NEIGHBOUR: 'it returns false'. Refute it at one input. -/
def worldNumbersWrong : ChangeSpec := { name := "worldNumbers", fn := fun _ => fun
  | [d1, d2, d3] => { results := [.lit (.bool false)], args := [d1, d2, d3] }
  | _ => none }
def WorldNumbersWrongFalsely : Prop := worldNumbersRow.holds Try.pinned (OpenSpec.ofChange worldNumbersWrong)

/-- 'posternlaw07.WorldMoney': WHATEVER THE INPUT: true; the input reads as it did. -/
def worldMoneySpec : ChangeSpec := { name := "worldMoney", fn := fun _ => fun
  | [d1, d2] => { results := [.lit (.bool true)], args := [d1, d2] }
  | _ => none }
def worldMoneyRow : OpenClaim := { program := "ytkbemnhgohokkaa", sum := "9d11ba60c3bd6f5cf3d5b9f4e368b7bd83e73124b9d146def36b406e534864be", func := "postern/posternlaw07.WorldMoney", spec := "worldMoney", unfollowed := true, recurses := true, plainKeys := false, apart := false }
def WorldMoneySaid : Prop := worldMoneyRow.holds Try.pinned (OpenSpec.ofChange worldMoneySpec)

/-- ITS FALSE NEIGHBOUR: 'it returns false'. Refute it at one input. -/
def worldMoneyWrong : ChangeSpec := { name := "worldMoney", fn := fun _ => fun
  | [d1, d2] => { results := [.lit (.bool false)], args := [d1, d2] }
  | _ => none }
def WorldMoneyWrongFalsely : Prop := worldMoneyRow.holds Try.pinned (OpenSpec.ofChange worldMoneyWrong)

/-- 'posternlaw13.TapMany': WHATEVER THE INPUT: true; the input reads as it did. -/
def tapManySpec : ChangeSpec := { name := "tapMany", fn := fun _ => fun
  | [] => { results := [.lit (.bool true)], args := [] }
  | _ => none }
def tapManyRow : OpenClaim := { program := "ytkbemnhgohokkaa", sum := "9d11ba60c3bd6f5cf3d5b9f4e368b7bd83e73124b9d146def36b406e534864be", func := "postern/posternlaw13.TapMany", spec := "tapMany", unfollowed := true, recurses := true, plainKeys := false, apart := false }
def TapManySaid : Prop := tapManyRow.holds Try.pinned (OpenSpec.ofChange tapManySpec)

/-- ITS FALSE NEIGHBOUR: 'it returns false'. Refute it at one input. -/
def tapManyWrong : ChangeSpec := { name := "tapMany", fn := fun _ => fun
  | [] => { results := [.lit (.bool false)], args := [] }
  | _ => none }
def TapManyWrongFalsely : Prop := tapManyRow.holds Try.pinned (OpenSpec.ofChange tapManyWrong)

/-- 'posternlaw13.TapCounts': WHATEVER THE INPUT: true; the input reads as it did. -/
def tapCountsSpec : ChangeSpec := { name := "tapCounts", fn := fun _ => fun
  | [d] => { results := [.lit (.bool true)], args := [d] }
  | _ => none }
def tapCountsRow : OpenClaim := { program := "ytkbemnhgohokkaa", sum := "9d11ba60c3bd6f5cf3d5b9f4e368b7bd83e73124b9d146def36b406e534864be", func := "postern/posternlaw13.TapCounts", spec := "tapCounts", unfollowed := true, recurses := true, plainKeys := false, apart := false }
def TapCountsSaid : Prop := tapCountsRow.holds Try.pinned (OpenSpec.ofChange tapCountsSpec)

/-- ITS FALSE NEIGHBOUR: 'it returns false'. Refute it at one input. -/
def tapCountsWrong : ChangeSpec := { name := "tapCounts", fn := fun _ => fun
  | [d] => { results := [.lit (.bool false)], args := [d] }
  | _ => none }
def TapCountsWrongFalsely : Prop := tapCountsRow.holds Try.pinned (OpenSpec.ofChange tapCountsWrong)

/-- 'posternlaw07.WorldFacets': WHATEVER THE INPUT: true; the input reads as it did. -/
def worldFacetsSpec : ChangeSpec := { name := "worldFacets", fn := fun _ => fun
  | [d1, d2, d3] => { results := [.lit (.bool true)], args := [d1, d2, d3] }
  | _ => none }
def worldFacetsRow : OpenClaim := { program := "ytkbemnhgohokkaa", sum := "9d11ba60c3bd6f5cf3d5b9f4e368b7bd83e73124b9d146def36b406e534864be", func := "postern/posternlaw07.WorldFacets", spec := "worldFacets", unfollowed := true, recurses := true, loops := true, plainKeys := false, apart := false }
def WorldFacetsSaid : Prop := worldFacetsRow.holds Try.pinned (OpenSpec.ofChange worldFacetsSpec)

/-- ITS FALSE NEIGHBOUR: 'it returns false'. Refute it at one input. -/
def worldFacetsWrong : ChangeSpec := { name := "worldFacets", fn := fun _ => fun
  | [d1, d2, d3] => { results := [.lit (.bool false)], args := [d1, d2, d3] }
  | _ => none }
def WorldFacetsWrongFalsely : Prop := worldFacetsRow.holds Try.pinned (OpenSpec.ofChange worldFacetsWrong)

/- THE SECOND FORM. 'bulk': how many values and letters a reading holds, each counted each time it is reached (what is shared counts as often as it is met; a slice's spare places count too). A statement '..UptoSaid' is the law's where the arguments, and the package variables that the reading takes, are together of bulk at most 1048576: NARROWER than '..Said'. Prove '..Said' where nothing that the law and all that it calls make is longer than what came in: it says more and counts as full. Else prove '..UptoSaid'. A law counts once. -/
mutual
def uptoBulk {H : Type} : DataW H → Nat
  | .lit (.string bytes) => bytes.length + 1
  | .lit _ => 1
  | .nil => 1
  | .ptr d => uptoBulk d + 1
  | .slice elems spare => uptoBulkAll elems + uptoBulkAll spare + 1
  | .agg parts => uptoBulkAll parts + 1
  | .iface _ d => uptoBulk d + 1
  | .map entries => uptoBulkEntries entries + 1
  | .held _ => 1
def uptoBulkAll {H : Type} : List (DataW H) → Nat
  | [] => 0
  | d :: r => uptoBulk d + uptoBulkAll r
def uptoBulkEntries {H : Type} : List (Lit × DataW H) → Nat
  | [] => 0
  | x :: r => uptoBulkEntry x + uptoBulkEntries r
def uptoBulkEntry {H : Type} : Lit × DataW H → Nat
  | (.string bytes, d) => bytes.length + uptoBulk d + 1
  | (_, d) => uptoBulk d + 1
 end
def uptoSmall : (H : Type) → List (DataW H) → Bool := fun _ ds => decide (uptoBulkAll ds ≤ 1048576)
def OpenSpec.upto (s : _root_.Go.ChangeSpec) : _root_.Go.OpenSpec := { _root_.Go.OpenSpec.ofChange s with cond := some uptoSmall }

/-- 'posternlaw07.WorldNames', WHERE WHAT IT READS IS OF BULK AT MOST 1048576: true; the input reads as it did. -/
def worldNamesUptoRow : OpenClaim := { program := "ytkbemnhgohokkaa", sum := "9d11ba60c3bd6f5cf3d5b9f4e368b7bd83e73124b9d146def36b406e534864be", func := "postern/posternlaw07.WorldNames", spec := "worldNames", unfollowed := true, recurses := true, plainKeys := false, apart := false, narrowed := true }
def WorldNamesUptoSaid : Prop := worldNamesUptoRow.holds Try.pinned (OpenSpec.upto worldNamesSpec)

/-- 'posternlaw07.WorldSides', WHERE WHAT IT READS IS OF BULK AT MOST 1048576: true; the input reads as it did. -/
def worldSidesUptoRow : OpenClaim := { program := "ytkbemnhgohokkaa", sum := "9d11ba60c3bd6f5cf3d5b9f4e368b7bd83e73124b9d146def36b406e534864be", func := "postern/posternlaw07.WorldSides", spec := "worldSides", unfollowed := true, recurses := true, plainKeys := false, apart := false, narrowed := true }
def WorldSidesUptoSaid : Prop := worldSidesUptoRow.holds Try.pinned (OpenSpec.upto worldSidesSpec)

/-- 'posternlaw13.TapNames', WHERE WHAT IT READS IS OF BULK AT MOST 1048576: true; the input reads as it did. -/
def tapNamesUptoRow : OpenClaim := { program := "ytkbemnhgohokkaa", sum := "9d11ba60c3bd6f5cf3d5b9f4e368b7bd83e73124b9d146def36b406e534864be", func := "postern/posternlaw13.TapNames", spec := "tapNames", unfollowed := true, recurses := true, plainKeys := false, apart := false, narrowed := true }
def TapNamesUptoSaid : Prop := tapNamesUptoRow.holds Try.pinned (OpenSpec.upto tapNamesSpec)

/-- 'posternlaw07.WorldMany', WHERE WHAT IT READS IS OF BULK AT MOST 1048576: true; the input reads as it did. -/
def worldManyUptoRow : OpenClaim := { program := "ytkbemnhgohokkaa", sum := "9d11ba60c3bd6f5cf3d5b9f4e368b7bd83e73124b9d146def36b406e534864be", func := "postern/posternlaw07.WorldMany", spec := "worldMany", unfollowed := true, recurses := true, plainKeys := false, apart := false, narrowed := true }
def WorldManyUptoSaid : Prop := worldManyUptoRow.holds Try.pinned (OpenSpec.upto worldManySpec)

/-- 'posternlaw07.WorldNumbers', WHERE WHAT IT READS IS OF BULK AT MOST 1048576: true; the input reads as it did. -/
def worldNumbersUptoRow : OpenClaim := { program := "ytkbemnhgohokkaa", sum := "9d11ba60c3bd6f5cf3d5b9f4e368b7bd83e73124b9d146def36b406e534864be", func := "postern/posternlaw07.WorldNumbers", spec := "worldNumbers", unfollowed := true, recurses := true, plainKeys := false, apart := false, narrowed := true }
def WorldNumbersUptoSaid : Prop := worldNumbersUptoRow.holds Try.pinned (OpenSpec.upto worldNumbersSpec)

/-- 'posternlaw07.WorldMoney', WHERE WHAT IT READS IS OF BULK AT MOST 1048576: true; the input reads as it did. -/
def worldMoneyUptoRow : OpenClaim := { program := "ytkbemnhgohokkaa", sum := "9d11ba60c3bd6f5cf3d5b9f4e368b7bd83e73124b9d146def36b406e534864be", func := "postern/posternlaw07.WorldMoney", spec := "worldMoney", unfollowed := true, recurses := true, plainKeys := false, apart := false, narrowed := true }
def WorldMoneyUptoSaid : Prop := worldMoneyUptoRow.holds Try.pinned (OpenSpec.upto worldMoneySpec)

/-- 'posternlaw13.TapMany', WHERE WHAT IT READS IS OF BULK AT MOST 1048576: true; the input reads as it did. -/
def tapManyUptoRow : OpenClaim := { program := "ytkbemnhgohokkaa", sum := "9d11ba60c3bd6f5cf3d5b9f4e368b7bd83e73124b9d146def36b406e534864be", func := "postern/posternlaw13.TapMany", spec := "tapMany", unfollowed := true, recurses := true, plainKeys := false, apart := false, narrowed := true }
def TapManyUptoSaid : Prop := tapManyUptoRow.holds Try.pinned (OpenSpec.upto tapManySpec)

/-- 'posternlaw13.TapCounts', WHERE WHAT IT READS IS OF BULK AT MOST 1048576: true; the input reads as it did. -/
def tapCountsUptoRow : OpenClaim := { program := "ytkbemnhgohokkaa", sum := "9d11ba60c3bd6f5cf3d5b9f4e368b7bd83e73124b9d146def36b406e534864be", func := "postern/posternlaw13.TapCounts", spec := "tapCounts", unfollowed := true, recurses := true, plainKeys := false, apart := false, narrowed := true }
def TapCountsUptoSaid : Prop := tapCountsUptoRow.holds Try.pinned (OpenSpec.upto tapCountsSpec)

/-- 'posternlaw07.WorldFacets', WHERE WHAT IT READS IS OF BULK AT MOST 1048576: true; the input reads as it did. -/
def worldFacetsUptoRow : OpenClaim := { program := "ytkbemnhgohokkaa", sum := "9d11ba60c3bd6f5cf3d5b9f4e368b7bd83e73124b9d146def36b406e534864be", func := "postern/posternlaw07.WorldFacets", spec := "worldFacets", unfollowed := true, recurses := true, loops := true, plainKeys := false, apart := false, narrowed := true }
def WorldFacetsUptoSaid : Prop := worldFacetsUptoRow.holds Try.pinned (OpenSpec.upto worldFacetsSpec)

end Rows
end Go.Proofs.Ytkbemnhgohokkaa
