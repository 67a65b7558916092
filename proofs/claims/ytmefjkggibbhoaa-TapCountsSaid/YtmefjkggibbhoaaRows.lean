/-
  No cell of these rows narrows 'for every input' (looked for: loops, veiled, ifaces, maps, wideKeys, modest, calm, conditions, laid).
  DERIVED. THE GIVEN ROWS OF THIS SEAT. 11 by the template 'for every input the law returns true; each argument reads behind the call as it read before'; 0 by the template 'total and deterministic' (their statements: YtmefjkggibbhoaaTotals.lean).
  GIVEN WITH THE SEED: the statements are not yours to turn. If you find one false, say at which input.
  Laid BY PROGRAM, IN A SANDBOX (cutbox-rows.mjs): the forced cells as the released guide's own fill.sh prints them over the translation c36fc4626de9c26e… (all of the seat's roots in one cut). By AI agents, Wed Nov 11 2026. No macro, syntax, notation, axiom, sorry.
-/
import Derived.Test.YtmefjkggibbhoaaChecked
import GoSem.Claim
import GoSem.ClaimJoined
import GoSem.ClaimMapViews
import Derived.JoinedTies
import Derived.KernelRfl
namespace Go.Proofs.Ytmefjkggibbhoaa
/- THE CELL 'sum', in the pinned program and in every row, IS THE sha256 OF THE DUMP (.gsa) THAT YtmefjkggibbhoaaProg.lean LOADS. Nothing in Lean hashes anything: it is a label: what it is worth is what the hold of that sum in a sandbox is worth. -/
noncomputable def Try.pinned : Pinned := { name := "ytmefjkggibbhoaa", sum := "c36fc4626de9c26ede57d7879f38e4d8efc584a09156bc67e14677ee87712478", checked := Try.checked }
namespace Rows
def none {H : Type} : Left H := { results := [], args := [] }

/-- 'posternlaw07.WorldNumbers': WHATEVER THE INPUT: true; the input reads as it did. -/
def worldNumbersSpec : ChangeSpec := { name := "worldNumbers", fn := fun _ => fun
  | [d1, d2, d3] => { results := [.lit (.bool true)], args := [d1, d2, d3] }
  | _ => none }
def worldNumbersRow : OpenClaim := { program := "ytmefjkggibbhoaa", sum := "c36fc4626de9c26ede57d7879f38e4d8efc584a09156bc67e14677ee87712478", func := "postern/posternlaw07.WorldNumbers", spec := "worldNumbers", unfollowed := true, recurses := true, plainKeys := false, apart := false }
def WorldNumbersSaid : Prop := worldNumbersRow.holds Try.pinned (OpenSpec.ofChange worldNumbersSpec)

/-- ITS FALSE NEIGHBOUR: 'it returns false'. Refute it at one input. -/
def worldNumbersWrong : ChangeSpec := { name := "worldNumbers", fn := fun _ => fun
  | [d1, d2, d3] => { results := [.lit (.bool false)], args := [d1, d2, d3] }
  | _ => none }
def WorldNumbersWrongFalsely : Prop := worldNumbersRow.holds Try.pinned (OpenSpec.ofChange worldNumbersWrong)

/-- 'posternlaw07.WorldMoney': WHATEVER THE INPUT: true; the input reads as it did. -/
def worldMoneySpec : ChangeSpec := { name := "worldMoney", fn := fun _ => fun
  | [d1, d2] => { results := [.lit (.bool true)], args := [d1, d2] }
  | _ => none }
def worldMoneyRow : OpenClaim := { program := "ytmefjkggibbhoaa", sum := "c36fc4626de9c26ede57d7879f38e4d8efc584a09156bc67e14677ee87712478", func := "postern/posternlaw07.WorldMoney", spec := "worldMoney", unfollowed := true, recurses := true, plainKeys := false, apart := false }
def WorldMoneySaid : Prop := worldMoneyRow.holds Try.pinned (OpenSpec.ofChange worldMoneySpec)

/-- ITS FALSE NEIGHBOUR: 'it returns false'. Refute it at one input. -/
def worldMoneyWrong : ChangeSpec := { name := "worldMoney", fn := fun _ => fun
  | [d1, d2] => { results := [.lit (.bool false)], args := [d1, d2] }
  | _ => none }
def WorldMoneyWrongFalsely : Prop := worldMoneyRow.holds Try.pinned (OpenSpec.ofChange worldMoneyWrong)

/-- 'posternlaw07.WorldMany': WHATEVER THE INPUT: true; the input reads as it did. -/
def worldManySpec : ChangeSpec := { name := "worldMany", fn := fun _ => fun
  | [] => { results := [.lit (.bool true)], args := [] }
  | _ => none }
def worldManyRow : OpenClaim := { program := "ytmefjkggibbhoaa", sum := "c36fc4626de9c26ede57d7879f38e4d8efc584a09156bc67e14677ee87712478", func := "postern/posternlaw07.WorldMany", spec := "worldMany", unfollowed := true, recurses := true, plainKeys := false, apart := false }
def WorldManySaid : Prop := worldManyRow.holds Try.pinned (OpenSpec.ofChange worldManySpec)

/-- ITS FALSE NEIGHBOUR: 'it returns false'. Refute it at one input. -/
def worldManyWrong : ChangeSpec := { name := "worldMany", fn := fun _ => fun
  | [] => { results := [.lit (.bool false)], args := [] }
  | _ => none }
def WorldManyWrongFalsely : Prop := worldManyRow.holds Try.pinned (OpenSpec.ofChange worldManyWrong)

/-- 'posternlaw13.TapNames': WHATEVER THE INPUT: true; the input reads as it did. -/
def tapNamesSpec : ChangeSpec := { name := "tapNames", fn := fun _ => fun
  | [] => { results := [.lit (.bool true)], args := [] }
  | _ => none }
def tapNamesRow : OpenClaim := { program := "ytmefjkggibbhoaa", sum := "c36fc4626de9c26ede57d7879f38e4d8efc584a09156bc67e14677ee87712478", func := "postern/posternlaw13.TapNames", spec := "tapNames", unfollowed := true, recurses := true, plainKeys := false, apart := false }
def TapNamesSaid : Prop := tapNamesRow.holds Try.pinned (OpenSpec.ofChange tapNamesSpec)

/-- ITS FALSE NEIGHBOUR: 'it returns false'. Refute it at one input. -/
def tapNamesWrong : ChangeSpec := { name := "tapNames", fn := fun _ => fun
  | [] => { results := [.lit (.bool false)], args := [] }
  | _ => none }
def TapNamesWrongFalsely : Prop := tapNamesRow.holds Try.pinned (OpenSpec.ofChange tapNamesWrong)

/-- 'posternlaw13.TapMany': WHATEVER THE INPUT: true; the input reads as it did. -/
def tapManySpec : ChangeSpec := { name := "tapMany", fn := fun _ => fun
  | [] => { results := [.lit (.bool true)], args := [] }
  | _ => none }
def tapManyRow : OpenClaim := { program := "ytmefjkggibbhoaa", sum := "c36fc4626de9c26ede57d7879f38e4d8efc584a09156bc67e14677ee87712478", func := "postern/posternlaw13.TapMany", spec := "tapMany", unfollowed := true, recurses := true, plainKeys := false, apart := false }
def TapManySaid : Prop := tapManyRow.holds Try.pinned (OpenSpec.ofChange tapManySpec)

/-- ITS FALSE NEIGHBOUR: 'it returns false'. Refute it at one input. -/
def tapManyWrong : ChangeSpec := { name := "tapMany", fn := fun _ => fun
  | [] => { results := [.lit (.bool false)], args := [] }
  | _ => none }
def TapManyWrongFalsely : Prop := tapManyRow.holds Try.pinned (OpenSpec.ofChange tapManyWrong)

/-- 'posternlaw13.TapCounts': WHATEVER THE INPUT: true; the input reads as it did. -/
def tapCountsSpec : ChangeSpec := { name := "tapCounts", fn := fun _ => fun
  | [d] => { results := [.lit (.bool true)], args := [d] }
  | _ => none }
def tapCountsRow : OpenClaim := { program := "ytmefjkggibbhoaa", sum := "c36fc4626de9c26ede57d7879f38e4d8efc584a09156bc67e14677ee87712478", func := "postern/posternlaw13.TapCounts", spec := "tapCounts", unfollowed := true, recurses := true, plainKeys := false, apart := false }
def TapCountsSaid : Prop := tapCountsRow.holds Try.pinned (OpenSpec.ofChange tapCountsSpec)

/-- ITS FALSE NEIGHBOUR: 'it returns false'. Refute it at one input. -/
def tapCountsWrong : ChangeSpec := { name := "tapCounts", fn := fun _ => fun
  | [d] => { results := [.lit (.bool false)], args := [d] }
  | _ => none }
def TapCountsWrongFalsely : Prop := tapCountsRow.holds Try.pinned (OpenSpec.ofChange tapCountsWrong)

/-- 'posternlaw10.PurseNames': WHATEVER THE INPUT: true; the input reads as it did. -/
def purseNamesSpec : ChangeSpec := { name := "purseNames", fn := fun _ => fun
  | [] => { results := [.lit (.bool true)], args := [] }
  | _ => none }
def purseNamesRow : OpenClaim := { program := "ytmefjkggibbhoaa", sum := "c36fc4626de9c26ede57d7879f38e4d8efc584a09156bc67e14677ee87712478", func := "postern/posternlaw10.PurseNames", spec := "purseNames", unfollowed := true, recurses := true, plainKeys := false, apart := false }
def PurseNamesSaid : Prop := purseNamesRow.holds Try.pinned (OpenSpec.ofChange purseNamesSpec)

/-- ITS FALSE NEIGHBOUR: 'it returns false'. Refute it at one input. -/
def purseNamesWrong : ChangeSpec := { name := "purseNames", fn := fun _ => fun
  | [] => { results := [.lit (.bool false)], args := [] }
  | _ => none }
def PurseNamesWrongFalsely : Prop := purseNamesRow.holds Try.pinned (OpenSpec.ofChange purseNamesWrong)

/-- 'posternlaw10.PurseApart': WHATEVER THE INPUT: true; the input reads as it did. -/
def purseApartSpec : ChangeSpec := { name := "purseApart", fn := fun _ => fun
  | [d1, d2, d3] => { results := [.lit (.bool true)], args := [d1, d2, d3] }
  | _ => none }
def purseApartRow : OpenClaim := { program := "ytmefjkggibbhoaa", sum := "c36fc4626de9c26ede57d7879f38e4d8efc584a09156bc67e14677ee87712478", func := "postern/posternlaw10.PurseApart", spec := "purseApart", unfollowed := true, recurses := true, plainKeys := false, apart := false }
def PurseApartSaid : Prop := purseApartRow.holds Try.pinned (OpenSpec.ofChange purseApartSpec)

/-- ITS FALSE NEIGHBOUR: 'it returns false'. Refute it at one input. -/
def purseApartWrong : ChangeSpec := { name := "purseApart", fn := fun _ => fun
  | [d1, d2, d3] => { results := [.lit (.bool false)], args := [d1, d2, d3] }
  | _ => none }
def PurseApartWrongFalsely : Prop := purseApartRow.holds Try.pinned (OpenSpec.ofChange purseApartWrong)

/-- 'posternlaw10.PurseBack': WHATEVER THE INPUT: true; the input reads as it did. -/
def purseBackSpec : ChangeSpec := { name := "purseBack", fn := fun _ => fun
  | [d1, d2, d3] => { results := [.lit (.bool true)], args := [d1, d2, d3] }
  | _ => none }
def purseBackRow : OpenClaim := { program := "ytmefjkggibbhoaa", sum := "c36fc4626de9c26ede57d7879f38e4d8efc584a09156bc67e14677ee87712478", func := "postern/posternlaw10.PurseBack", spec := "purseBack", unfollowed := true, recurses := true, plainKeys := false, apart := false }
def PurseBackSaid : Prop := purseBackRow.holds Try.pinned (OpenSpec.ofChange purseBackSpec)

/-- ITS FALSE NEIGHBOUR: 'it returns false'. Refute it at one input. -/
def purseBackWrong : ChangeSpec := { name := "purseBack", fn := fun _ => fun
  | [d1, d2, d3] => { results := [.lit (.bool false)], args := [d1, d2, d3] }
  | _ => none }
def PurseBackWrongFalsely : Prop := purseBackRow.holds Try.pinned (OpenSpec.ofChange purseBackWrong)

/-- 'posternlaw10.PurseMany': WHATEVER THE INPUT: true; the input reads as it did. -/
def purseManySpec : ChangeSpec := { name := "purseMany", fn := fun _ => fun
  | [] => { results := [.lit (.bool true)], args := [] }
  | _ => none }
def purseManyRow : OpenClaim := { program := "ytmefjkggibbhoaa", sum := "c36fc4626de9c26ede57d7879f38e4d8efc584a09156bc67e14677ee87712478", func := "postern/posternlaw10.PurseMany", spec := "purseMany", unfollowed := true, recurses := true, plainKeys := false, apart := false }
def PurseManySaid : Prop := purseManyRow.holds Try.pinned (OpenSpec.ofChange purseManySpec)

/-- ITS FALSE NEIGHBOUR: 'it returns false'. Refute it at one input. -/
def purseManyWrong : ChangeSpec := { name := "purseMany", fn := fun _ => fun
  | [] => { results := [.lit (.bool false)], args := [] }
  | _ => none }
def PurseManyWrongFalsely : Prop := purseManyRow.holds Try.pinned (OpenSpec.ofChange purseManyWrong)

/-- 'posternlaw10.PurseNone': WHATEVER THE INPUT: true; the input reads as it did. -/
def purseNoneSpec : ChangeSpec := { name := "purseNone", fn := fun _ => fun
  | [d1, d2, d3] => { results := [.lit (.bool true)], args := [d1, d2, d3] }
  | _ => none }
def purseNoneRow : OpenClaim := { program := "ytmefjkggibbhoaa", sum := "c36fc4626de9c26ede57d7879f38e4d8efc584a09156bc67e14677ee87712478", func := "postern/posternlaw10.PurseNone", spec := "purseNone", unfollowed := true, recurses := true, plainKeys := false, apart := false }
def PurseNoneSaid : Prop := purseNoneRow.holds Try.pinned (OpenSpec.ofChange purseNoneSpec)

/-- ITS FALSE NEIGHBOUR: 'it returns false'. Refute it at one input. -/
def purseNoneWrong : ChangeSpec := { name := "purseNone", fn := fun _ => fun
  | [d1, d2, d3] => { results := [.lit (.bool false)], args := [d1, d2, d3] }
  | _ => none }
def PurseNoneWrongFalsely : Prop := purseNoneRow.holds Try.pinned (OpenSpec.ofChange purseNoneWrong)

/- THE SECOND FORM. 'bulk': how many values and letters a reading holds, each counted each time it is reached (what is shared counts as often as it is met; a slice's spare places count too). A statement '..UptoSaid' is the law's where the arguments, and the package variables that the reading takes, are together of bulk at most 1048576: NARROWER than '..Said'. Prove '..Said' where nothing that the law and all that it calls make is longer than what came in: it says more and counts as full. Else prove '..UptoSaid'. A law counts once. -/
mutual
def uptoBulk {H : Type} : DataW H → Nat
  | .lit (.string bytes) => bytes.length + 1
  | .lit _ => 1
  | .nil => 1
  | .ptr d => uptoBulk d + 1
  | .slice elems spare => uptoBulkAll elems + uptoBulkAll spare + 1
  | .agg parts => uptoBulkAll parts + 1
  | .iface _ d => uptoBulk d + 1
  | .map entries => uptoBulkEntries entries + 1
  | .held _ => 1
def uptoBulkAll {H : Type} : List (DataW H) → Nat
  | [] => 0
  | d :: r => uptoBulk d + uptoBulkAll r
def uptoBulkEntries {H : Type} : List (Lit × DataW H) → Nat
  | [] => 0
  | x :: r => uptoBulkEntry x + uptoBulkEntries r
def uptoBulkEntry {H : Type} : Lit × DataW H → Nat
  | (.string bytes, d) => bytes.length + uptoBulk d + 1
  | (_, d) => uptoBulk d + 1
 end
def uptoSmall : (H : Type) → List (DataW H) → Bool := fun _ ds => decide (uptoBulkAll ds ≤ 1048576)
def OpenSpec.upto (s : _root_.Go.ChangeSpec) : _root_.Go.OpenSpec := { _root_.Go.OpenSpec.ofChange s with cond := some uptoSmall }

/-- 'posternlaw07.WorldNumbers', WHERE WHAT IT READS IS OF BULK AT MOST 1048576: true; the input reads as it did. -/
def worldNumbersUptoRow : OpenClaim := { program := "ytmefjkggibbhoaa", sum := "c36fc4626de9c26ede57d7879f38e4d8efc584a09156bc67e14677ee87712478", func := "postern/posternlaw07.WorldNumbers", spec := "worldNumbers", unfollowed := true, recurses := true, plainKeys := false, apart := false, narrowed := true }
def WorldNumbersUptoSaid : Prop := worldNumbersUptoRow.holds Try.pinned (OpenSpec.upto worldNumbersSpec)

/-- 'posternlaw07.WorldMoney', WHERE WHAT IT READS IS OF BULK AT MOST 1048576: true; the input reads as it did. -/
def worldMoneyUptoRow : OpenClaim := { program := "ytmefjkggibbhoaa", sum := "c36fc4626de9c26ede57d7879f38e4d8efc584a09156bc67e14677ee87712478", func := "postern/posternlaw07.WorldMoney", spec := "worldMoney", unfollowed := true, recurses := true, plainKeys := false, apart := false, narrowed := true }
def WorldMoneyUptoSaid : Prop := worldMoneyUptoRow.holds Try.pinned (OpenSpec.upto worldMoneySpec)

/-- 'posternlaw07.WorldMany', WHERE WHAT IT READS IS OF BULK AT MOST 1048576: true; the input reads as it did. -/
def worldManyUptoRow : OpenClaim := { program := "ytmefjkggibbhoaa", sum := "c36fc4626de9c26ede57d7879f38e4d8efc584a09156bc67e14677ee87712478", func := "postern/posternlaw07.WorldMany", spec := "worldMany", unfollowed := true, recurses := true, plainKeys := false, apart := false, narrowed := true }
def WorldManyUptoSaid : Prop := worldManyUptoRow.holds Try.pinned (OpenSpec.upto worldManySpec)

/-- 'posternlaw13.TapNames', WHERE WHAT IT READS IS OF BULK AT MOST 1048576: true; the input reads as it did. -/
def tapNamesUptoRow : OpenClaim := { program := "ytmefjkggibbhoaa", sum := "c36fc4626de9c26ede57d7879f38e4d8efc584a09156bc67e14677ee87712478", func := "postern/posternlaw13.TapNames", spec := "tapNames", unfollowed := true, recurses := true, plainKeys := false, apart := false, narrowed := true }
def TapNamesUptoSaid : Prop := tapNamesUptoRow.holds Try.pinned (OpenSpec.upto tapNamesSpec)

/-- 'posternlaw13.TapMany', WHERE WHAT IT READS IS OF BULK AT MOST 1048576: true; the input reads as it did. -/
def tapManyUptoRow : OpenClaim := { program := "ytmefjkggibbhoaa", sum := "c36fc4626de9c26ede57d7879f38e4d8efc584a09156bc67e14677ee87712478", func := "postern/posternlaw13.TapMany", spec := "tapMany", unfollowed := true, recurses := true, plainKeys := false, apart := false, narrowed := true }
def TapManyUptoSaid : Prop := tapManyUptoRow.holds Try.pinned (OpenSpec.upto tapManySpec)

/-- 'posternlaw13.TapCounts', WHERE WHAT IT READS IS OF BULK AT MOST 1048576: true; the input reads as it did. -/
def tapCountsUptoRow : OpenClaim := { program := "ytmefjkggibbhoaa", sum := "c36fc4626de9c26ede57d7879f38e4d8efc584a09156bc67e14677ee87712478", func := "postern/posternlaw13.TapCounts", spec := "tapCounts", unfollowed := true, recurses := true, plainKeys := false, apart := false, narrowed := true }
def TapCountsUptoSaid : Prop := tapCountsUptoRow.holds Try.pinned (OpenSpec.upto tapCountsSpec)

/-- 'posternlaw10.PurseNames', WHERE WHAT IT READS IS OF BULK AT MOST 1048576: true; the input reads as it did. -/
def purseNamesUptoRow : OpenClaim := { program := "ytmefjkggibbhoaa", sum := "c36fc4626de9c26ede57d7879f38e4d8efc584a09156bc67e14677ee87712478", func := "postern/posternlaw10.PurseNames", spec := "purseNames", unfollowed := true, recurses := true, plainKeys := false, apart := false, narrowed := true }
def PurseNamesUptoSaid : Prop := purseNamesUptoRow.holds Try.pinned (OpenSpec.upto purseNamesSpec)

/-- 'posternlaw10.PurseApart', WHERE WHAT IT READS IS OF BULK AT MOST 1048576: true; the input reads as it did. -/
def purseApartUptoRow : OpenClaim := { program := "ytmefjkggibbhoaa", sum := "c36fc4626de9c26ede57d7879f38e4d8efc584a09156bc67e14677ee87712478", func := "postern/posternlaw10.PurseApart", spec := "purseApart", unfollowed := true, recurses := true, plainKeys := false, apart := false, narrowed := true }
def PurseApartUptoSaid : Prop := purseApartUptoRow.holds Try.pinned (OpenSpec.upto purseApartSpec)

/-- 'posternlaw10.PurseBack', WHERE WHAT IT READS IS OF BULK AT MOST 1048576: true; the input reads as it did. -/
def purseBackUptoRow : OpenClaim := { program := "ytmefjkggibbhoaa", sum := "c36fc4626de9c26ede57d7879f38e4d8efc584a09156bc67e14677ee87712478", func := "postern/posternlaw10.PurseBack", spec := "purseBack", unfollowed := true, recurses := true, plainKeys := false, apart := false, narrowed := true }
def PurseBackUptoSaid : Prop := purseBackUptoRow.holds Try.pinned (OpenSpec.upto purseBackSpec)

/-- 'posternlaw10.PurseMany', WHERE WHAT IT READS IS OF BULK AT MOST 1048576: true; the input reads as it did. -/
def purseManyUptoRow : OpenClaim := { program := "ytmefjkggibbhoaa", sum := "c36fc4626de9c26ede57d7879f38e4d8efc584a09156bc67e14677ee87712478", func := "postern/posternlaw10.PurseMany", spec := "purseMany", unfollowed := true, recurses := true, plainKeys := false, apart := false, narrowed := true }
def PurseManyUptoSaid : Prop := purseManyUptoRow.holds Try.pinned (OpenSpec.upto purseManySpec)

/-- 'posternlaw10.PurseNone', WHERE WHAT IT READS IS OF BULK AT MOST 1048576: true; the input reads as it did. -/
def purseNoneUptoRow : OpenClaim := { program := "ytmefjkggibbhoaa", sum := "c36fc4626de9c26ede57d7879f38e4d8efc584a09156bc67e14677ee87712478", func := "postern/posternlaw10.PurseNone", spec := "purseNone", unfollowed := true, recurses := true, plainKeys := false, apart := false, narrowed := true }
def PurseNoneUptoSaid : Prop := purseNoneUptoRow.holds Try.pinned (OpenSpec.upto purseNoneSpec)

end Rows
end Go.Proofs.Ytmefjkggibbhoaa
