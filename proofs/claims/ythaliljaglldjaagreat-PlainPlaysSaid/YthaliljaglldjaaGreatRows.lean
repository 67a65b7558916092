/-
  NARROWER THAN 'FOR EVERY INPUT', by the rows' own cells (each row's printed sentence says how): PlainFull: loops · PlainPlays: loops · WorldPlays: loops · WorldTells: loops · WorldReads: loops.
  DERIVED. THE GIVEN ROWS OF THIS SEAT. 7 by the template 'for every input the law returns true; each argument reads behind the call as it read before'; 0 by the template 'total and deterministic' (their statements: YthaliljaglldjaaGreatTotals.lean).
  GIVEN WITH THE SEED: the statements are not yours to turn. If you find one false, say at which input.
  Laid BY PROGRAM, IN A SANDBOX (cutbox-rows.mjs): the forced cells as the released guide's own fill.sh prints them over the translation 8460b8c30571c4f3… (all of the seat's roots in one cut). By AI agents, Wed Nov 11 2026. No macro, syntax, notation, axiom, sorry.
-/
import Derived.Test.YthaliljaglldjaaGreatChecked
import GoSem.Claim
import GoSem.ClaimJoined
import GoSem.ClaimMapViews
import Derived.JoinedTies
import Derived.KernelRfl
namespace Go.Proofs.YthaliljaglldjaaGreat
/- THE CELL 'sum', in the pinned program and in every row, IS THE sha256 OF THE DUMP (.gsa) THAT YthaliljaglldjaaGreatProg.lean LOADS. Nothing in Lean hashes anything: it is a label: what it is worth is what the hold of that sum in a sandbox is worth. -/
noncomputable def Tryz.pinned : Pinned := { name := "ythaliljaglldjaagreat", sum := "8460b8c30571c4f33de5693c0f473452be9e35cb796d60a3e39c536c5720145c", checked := Tryz.checked }
namespace Rows
def none {H : Type} : Left H := { results := [], args := [] }

/-- 'posternlaw08.PlainFull': WHATEVER THE INPUT: true; the input reads as it did. -/
def plainFullSpec : ChangeSpec := { name := "plainFull", fn := fun _ => fun
  | [d1, d2, d3] => { results := [.lit (.bool true)], args := [d1, d2, d3] }
  | _ => none }
def plainFullRow : OpenClaim := { program := "ythaliljaglldjaagreat", sum := "8460b8c30571c4f33de5693c0f473452be9e35cb796d60a3e39c536c5720145c", func := "postern/posternlaw08.PlainFull", spec := "plainFull", unfollowed := true, recurses := true, loops := true, plainKeys := false, apart := false }
def PlainFullSaid : Prop := plainFullRow.holds Tryz.pinned (OpenSpec.ofChange plainFullSpec)

/-- ITS FALSE NEIGHBOUR: 'it returns false'. Refute it at one input. -/
def plainFullWrong : ChangeSpec := { name := "plainFull", fn := fun _ => fun
  | [d1, d2, d3] => { results := [.lit (.bool false)], args := [d1, d2, d3] }
  | _ => none }
def PlainFullWrongFalsely : Prop := plainFullRow.holds Tryz.pinned (OpenSpec.ofChange plainFullWrong)

/-- 'posternlaw08.PlainPlays': WHATEVER THE INPUT: true; the input reads as it did. -/
def plainPlaysSpec : ChangeSpec := { name := "plainPlays", fn := fun _ => fun
  | [d1, d2] => { results := [.lit (.bool true)], args := [d1, d2] }
  | _ => none }
def plainPlaysRow : OpenClaim := { program := "ythaliljaglldjaagreat", sum := "8460b8c30571c4f33de5693c0f473452be9e35cb796d60a3e39c536c5720145c", func := "postern/posternlaw08.PlainPlays", spec := "plainPlays", unfollowed := true, recurses := true, loops := true, plainKeys := false, apart := false }
def PlainPlaysSaid : Prop := plainPlaysRow.holds Tryz.pinned (OpenSpec.ofChange plainPlaysSpec)

/-- ITS FALSE NEIGHBOUR: 'it returns false'. Refute it at one input. -/
def plainPlaysWrong : ChangeSpec := { name := "plainPlays", fn := fun _ => fun
  | [d1, d2] => { results := [.lit (.bool false)], args := [d1, d2] }
  | _ => none }
def PlainPlaysWrongFalsely : Prop := plainPlaysRow.holds Tryz.pinned (OpenSpec.ofChange plainPlaysWrong)

/-- 'posternlaw10.PursePlays': WHATEVER THE INPUT: true; the input reads as it did. -/
def pursePlaysSpec : ChangeSpec := { name := "pursePlays", fn := fun _ => fun
  | [d] => { results := [.lit (.bool true)], args := [d] }
  | _ => none }
def pursePlaysRow : OpenClaim := { program := "ythaliljaglldjaagreat", sum := "8460b8c30571c4f33de5693c0f473452be9e35cb796d60a3e39c536c5720145c", func := "postern/posternlaw10.PursePlays", spec := "pursePlays", unfollowed := true, recurses := true, plainKeys := false, apart := false }
def PursePlaysSaid : Prop := pursePlaysRow.holds Tryz.pinned (OpenSpec.ofChange pursePlaysSpec)

/-- ITS FALSE NEIGHBOUR: 'it returns false'. Refute it at one input. -/
def pursePlaysWrong : ChangeSpec := { name := "pursePlays", fn := fun _ => fun
  | [d] => { results := [.lit (.bool false)], args := [d] }
  | _ => none }
def PursePlaysWrongFalsely : Prop := pursePlaysRow.holds Tryz.pinned (OpenSpec.ofChange pursePlaysWrong)

/-- 'posternlaw13.TapPlays': WHATEVER THE INPUT: true; the input reads as it did. -/
def tapPlaysSpec : ChangeSpec := { name := "tapPlays", fn := fun _ => fun
  | [d] => { results := [.lit (.bool true)], args := [d] }
  | _ => none }
def tapPlaysRow : OpenClaim := { program := "ythaliljaglldjaagreat", sum := "8460b8c30571c4f33de5693c0f473452be9e35cb796d60a3e39c536c5720145c", func := "postern/posternlaw13.TapPlays", spec := "tapPlays", unfollowed := true, recurses := true, plainKeys := false, apart := false }
def TapPlaysSaid : Prop := tapPlaysRow.holds Tryz.pinned (OpenSpec.ofChange tapPlaysSpec)

/-- ITS FALSE NEIGHBOUR: 'it returns false'. Refute it at one input. -/
def tapPlaysWrong : ChangeSpec := { name := "tapPlays", fn := fun _ => fun
  | [d] => { results := [.lit (.bool false)], args := [d] }
  | _ => none }
def TapPlaysWrongFalsely : Prop := tapPlaysRow.holds Tryz.pinned (OpenSpec.ofChange tapPlaysWrong)

/-- 'posternlaw07.WorldPlays': WHATEVER THE INPUT: true; the input reads as it did. -/
def worldPlaysSpec : ChangeSpec := { name := "worldPlays", fn := fun _ => fun
  | [d1, d2] => { results := [.lit (.bool true)], args := [d1, d2] }
  | _ => none }
def worldPlaysRow : OpenClaim := { program := "ythaliljaglldjaagreat", sum := "8460b8c30571c4f33de5693c0f473452be9e35cb796d60a3e39c536c5720145c", func := "postern/posternlaw07.WorldPlays", spec := "worldPlays", unfollowed := true, recurses := true, loops := true, plainKeys := false, apart := false }
def WorldPlaysSaid : Prop := worldPlaysRow.holds Tryz.pinned (OpenSpec.ofChange worldPlaysSpec)

/-- ITS FALSE NEIGHBOUR: 'it returns false'. Refute it at one input. -/
def worldPlaysWrong : ChangeSpec := { name := "worldPlays", fn := fun _ => fun
  | [d1, d2] => { results := [.lit (.bool false)], args := [d1, d2] }
  | _ => none }
def WorldPlaysWrongFalsely : Prop := worldPlaysRow.holds Tryz.pinned (OpenSpec.ofChange worldPlaysWrong)

/-- 'posternlaw07.WorldTells': WHATEVER THE INPUT: true; the input reads as it did. -/
def worldTellsSpec : ChangeSpec := { name := "worldTells", fn := fun _ => fun
  | [d1, d2] => { results := [.lit (.bool true)], args := [d1, d2] }
  | _ => none }
def worldTellsRow : OpenClaim := { program := "ythaliljaglldjaagreat", sum := "8460b8c30571c4f33de5693c0f473452be9e35cb796d60a3e39c536c5720145c", func := "postern/posternlaw07.WorldTells", spec := "worldTells", unfollowed := true, recurses := true, loops := true, plainKeys := false, apart := false }
def WorldTellsSaid : Prop := worldTellsRow.holds Tryz.pinned (OpenSpec.ofChange worldTellsSpec)

/-- ITS FALSE NEIGHBOUR: 'it returns false'. Refute it at one input. -/
def worldTellsWrong : ChangeSpec := { name := "worldTells", fn := fun _ => fun
  | [d1, d2] => { results := [.lit (.bool false)], args := [d1, d2] }
  | _ => none }
def WorldTellsWrongFalsely : Prop := worldTellsRow.holds Tryz.pinned (OpenSpec.ofChange worldTellsWrong)

/-- 'posternlaw07.WorldReads': WHATEVER THE INPUT: true; the input reads as it did. -/
def worldReadsSpec : ChangeSpec := { name := "worldReads", fn := fun _ => fun
  | [d] => { results := [.lit (.bool true)], args := [d] }
  | _ => none }
def worldReadsRow : OpenClaim := { program := "ythaliljaglldjaagreat", sum := "8460b8c30571c4f33de5693c0f473452be9e35cb796d60a3e39c536c5720145c", func := "postern/posternlaw07.WorldReads", spec := "worldReads", unfollowed := true, recurses := true, loops := true, plainKeys := false, apart := false }
def WorldReadsSaid : Prop := worldReadsRow.holds Tryz.pinned (OpenSpec.ofChange worldReadsSpec)

/-- ITS FALSE NEIGHBOUR: 'it returns false'. Refute it at one input. -/
def worldReadsWrong : ChangeSpec := { name := "worldReads", fn := fun _ => fun
  | [d] => { results := [.lit (.bool false)], args := [d] }
  | _ => none }
def WorldReadsWrongFalsely : Prop := worldReadsRow.holds Tryz.pinned (OpenSpec.ofChange worldReadsWrong)

/- THE SECOND FORM. 'bulk': how many values and letters a reading holds, each counted each time it is reached (what is shared counts as often as it is met; a slice's spare places count too). A statement '..UptoSaid' is the law's where the arguments, and the package variables that the reading takes, are together of bulk at most 1048576: NARROWER than '..Said'. Prove '..Said' where nothing that the law and all that it calls make is longer than what came in: it says more and counts as full. Else prove '..UptoSaid'. A law counts once. -/
mutual
def uptoBulk {H : Type} : DataW H → Nat
  | .lit (.string bytes) => bytes.length + 1
  | .lit _ => 1
  | .nil => 1
  | .ptr d => uptoBulk d + 1
  | .slice elems spare => uptoBulkAll elems + uptoBulkAll spare + 1
  | .agg parts => uptoBulkAll parts + 1
  | .iface _ d => uptoBulk d + 1
  | .map entries => uptoBulkEntries entries + 1
  | .held _ => 1
def uptoBulkAll {H : Type} : List (DataW H) → Nat
  | [] => 0
  | d :: r => uptoBulk d + uptoBulkAll r
def uptoBulkEntries {H : Type} : List (Lit × DataW H) → Nat
  | [] => 0
  | x :: r => uptoBulkEntry x + uptoBulkEntries r
def uptoBulkEntry {H : Type} : Lit × DataW H → Nat
  | (.string bytes, d) => bytes.length + uptoBulk d + 1
  | (_, d) => uptoBulk d + 1
 end
def uptoSmall : (H : Type) → List (DataW H) → Bool := fun _ ds => decide (uptoBulkAll ds ≤ 1048576)
def OpenSpec.upto (s : _root_.Go.ChangeSpec) : _root_.Go.OpenSpec := { _root_.Go.OpenSpec.ofChange s with cond := some uptoSmall }

/-- 'posternlaw08.PlainFull', WHERE WHAT IT READS IS OF BULK AT MOST 1048576: true; the input reads as it did. -/
def plainFullUptoRow : OpenClaim := { program := "ythaliljaglldjaagreat", sum := "8460b8c30571c4f33de5693c0f473452be9e35cb796d60a3e39c536c5720145c", func := "postern/posternlaw08.PlainFull", spec := "plainFull", unfollowed := true, recurses := true, loops := true, plainKeys := false, apart := false, narrowed := true }
def PlainFullUptoSaid : Prop := plainFullUptoRow.holds Tryz.pinned (OpenSpec.upto plainFullSpec)

/-- 'posternlaw08.PlainPlays', WHERE WHAT IT READS IS OF BULK AT MOST 1048576: true; the input reads as it did. -/
def plainPlaysUptoRow : OpenClaim := { program := "ythaliljaglldjaagreat", sum := "8460b8c30571c4f33de5693c0f473452be9e35cb796d60a3e39c536c5720145c", func := "postern/posternlaw08.PlainPlays", spec := "plainPlays", unfollowed := true, recurses := true, loops := true, plainKeys := false, apart := false, narrowed := true }
def PlainPlaysUptoSaid : Prop := plainPlaysUptoRow.holds Tryz.pinned (OpenSpec.upto plainPlaysSpec)

/-- 'posternlaw10.PursePlays', WHERE WHAT IT READS IS OF BULK AT MOST 1048576: true; the input reads as it did. -/
def pursePlaysUptoRow : OpenClaim := { program := "ythaliljaglldjaagreat", sum := "8460b8c30571c4f33de5693c0f473452be9e35cb796d60a3e39c536c5720145c", func := "postern/posternlaw10.PursePlays", spec := "pursePlays", unfollowed := true, recurses := true, plainKeys := false, apart := false, narrowed := true }
def PursePlaysUptoSaid : Prop := pursePlaysUptoRow.holds Tryz.pinned (OpenSpec.upto pursePlaysSpec)

/-- 'posternlaw13.TapPlays', WHERE WHAT IT READS IS OF BULK AT MOST 1048576: true; the input reads as it did. -/
def tapPlaysUptoRow : OpenClaim := { program := "ythaliljaglldjaagreat", sum := "8460b8c30571c4f33de5693c0f473452be9e35cb796d60a3e39c536c5720145c", func := "postern/posternlaw13.TapPlays", spec := "tapPlays", unfollowed := true, recurses := true, plainKeys := false, apart := false, narrowed := true }
def TapPlaysUptoSaid : Prop := tapPlaysUptoRow.holds Tryz.pinned (OpenSpec.upto tapPlaysSpec)

/-- 'posternlaw07.WorldPlays', WHERE WHAT IT READS IS OF BULK AT MOST 1048576: true; the input reads as it did. -/
def worldPlaysUptoRow : OpenClaim := { program := "ythaliljaglldjaagreat", sum := "8460b8c30571c4f33de5693c0f473452be9e35cb796d60a3e39c536c5720145c", func := "postern/posternlaw07.WorldPlays", spec := "worldPlays", unfollowed := true, recurses := true, loops := true, plainKeys := false, apart := false, narrowed := true }
def WorldPlaysUptoSaid : Prop := worldPlaysUptoRow.holds Tryz.pinned (OpenSpec.upto worldPlaysSpec)

/-- 'posternlaw07.WorldTells', WHERE WHAT IT READS IS OF BULK AT MOST 1048576: true; the input reads as it did. -/
def worldTellsUptoRow : OpenClaim := { program := "ythaliljaglldjaagreat", sum := "8460b8c30571c4f33de5693c0f473452be9e35cb796d60a3e39c536c5720145c", func := "postern/posternlaw07.WorldTells", spec := "worldTells", unfollowed := true, recurses := true, loops := true, plainKeys := false, apart := false, narrowed := true }
def WorldTellsUptoSaid : Prop := worldTellsUptoRow.holds Tryz.pinned (OpenSpec.upto worldTellsSpec)

/-- 'posternlaw07.WorldReads', WHERE WHAT IT READS IS OF BULK AT MOST 1048576: true; the input reads as it did. -/
def worldReadsUptoRow : OpenClaim := { program := "ythaliljaglldjaagreat", sum := "8460b8c30571c4f33de5693c0f473452be9e35cb796d60a3e39c536c5720145c", func := "postern/posternlaw07.WorldReads", spec := "worldReads", unfollowed := true, recurses := true, loops := true, plainKeys := false, apart := false, narrowed := true }
def WorldReadsUptoSaid : Prop := worldReadsUptoRow.holds Tryz.pinned (OpenSpec.upto worldReadsSpec)

end Rows
end Go.Proofs.YthaliljaglldjaaGreat
