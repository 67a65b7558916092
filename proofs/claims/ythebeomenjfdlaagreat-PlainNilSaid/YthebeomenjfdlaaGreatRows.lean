/-
  NARROWER THAN 'FOR EVERY INPUT', by the rows' own cells (each row's printed sentence says how): PlainApart: loops · PlainNil: loops · PlainQueue: loops · PlainKeeps: loops · WorldNone: loops.
  DERIVED. THE GIVEN ROWS OF THIS SEAT. 6 by the template 'for every input the law returns true; each argument reads behind the call as it read before'; 0 by the template 'total and deterministic' (their statements: YthebeomenjfdlaaGreatTotals.lean).
  GIVEN WITH THE SEED: the statements are not yours to turn. If you find one false, say at which input.
  Laid BY PROGRAM, IN A SANDBOX (cutbox-rows.mjs): the forced cells as the released guide's own fill.sh prints them over the translation 1b66d5c366d91313… (all of the seat's roots in one cut). By AI agents, Wed Nov 11 2026. No macro, syntax, notation, axiom, sorry.
-/
import Derived.Test.YthebeomenjfdlaaGreatChecked
import GoSem.Claim
import GoSem.ClaimJoined
import GoSem.ClaimMapViews
import Derived.JoinedTies
import Derived.KernelRfl
namespace Go.Proofs.YthebeomenjfdlaaGreat
/- THE CELL 'sum', in the pinned program and in every row, IS THE sha256 OF THE DUMP (.gsa) THAT YthebeomenjfdlaaGreatProg.lean LOADS. Nothing in Lean hashes anything: it is a label: what it is worth is what the hold of that sum in a sandbox is worth. -/
noncomputable def Tryz.pinned : Pinned := { name := "ythebeomenjfdlaagreat", sum := "1b66d5c366d9131340a4b9c0afa9ad9669813339ef8453e25e3a818d24ea1878", checked := Tryz.checked }
namespace Rows
def none {H : Type} : Left H := { results := [], args := [] }

/-- 'posternlaw08.PlainApart': WHATEVER THE INPUT: true; the input reads as it did. -/
def plainApartSpec : ChangeSpec := { name := "plainApart", fn := fun _ => fun
  | [d1, d2, d3] => { results := [.lit (.bool true)], args := [d1, d2, d3] }
  | _ => none }
def plainApartRow : OpenClaim := { program := "ythebeomenjfdlaagreat", sum := "1b66d5c366d9131340a4b9c0afa9ad9669813339ef8453e25e3a818d24ea1878", func := "postern/posternlaw08.PlainApart", spec := "plainApart", unfollowed := true, recurses := true, loops := true, plainKeys := false, apart := false }
def PlainApartSaid : Prop := plainApartRow.holds Tryz.pinned (OpenSpec.ofChange plainApartSpec)

/-- ITS FALSE NEIGHBOUR: 'it returns false'. Refute it at one input. -/
def plainApartWrong : ChangeSpec := { name := "plainApart", fn := fun _ => fun
  | [d1, d2, d3] => { results := [.lit (.bool false)], args := [d1, d2, d3] }
  | _ => none }
def PlainApartWrongFalsely : Prop := plainApartRow.holds Tryz.pinned (OpenSpec.ofChange plainApartWrong)

/-- 'posternlaw08.PlainNil': WHATEVER THE INPUT: true; the input reads as it did. -/
def plainNilSpec : ChangeSpec := { name := "plainNil", fn := fun _ => fun
  | [d1, d2, d3, d4] => { results := [.lit (.bool true)], args := [d1, d2, d3, d4] }
  | _ => none }
def plainNilRow : OpenClaim := { program := "ythebeomenjfdlaagreat", sum := "1b66d5c366d9131340a4b9c0afa9ad9669813339ef8453e25e3a818d24ea1878", func := "postern/posternlaw08.PlainNil", spec := "plainNil", unfollowed := true, recurses := true, loops := true, plainKeys := false, apart := false }
def PlainNilSaid : Prop := plainNilRow.holds Tryz.pinned (OpenSpec.ofChange plainNilSpec)

/-- ITS FALSE NEIGHBOUR: 'it returns false'. Refute it at one input. -/
def plainNilWrong : ChangeSpec := { name := "plainNil", fn := fun _ => fun
  | [d1, d2, d3, d4] => { results := [.lit (.bool false)], args := [d1, d2, d3, d4] }
  | _ => none }
def PlainNilWrongFalsely : Prop := plainNilRow.holds Tryz.pinned (OpenSpec.ofChange plainNilWrong)

/-- 'posternlaw08.PlainSums': WHATEVER THE INPUT: true; the input reads as it did. -/
def plainSumsSpec : ChangeSpec := { name := "plainSums", fn := fun _ => fun
  | [d] => { results := [.lit (.bool true)], args := [d] }
  | _ => none }
def plainSumsRow : OpenClaim := { program := "ythebeomenjfdlaagreat", sum := "1b66d5c366d9131340a4b9c0afa9ad9669813339ef8453e25e3a818d24ea1878", func := "postern/posternlaw08.PlainSums", spec := "plainSums", unfollowed := true, recurses := true, plainKeys := false, apart := false }
def PlainSumsSaid : Prop := plainSumsRow.holds Tryz.pinned (OpenSpec.ofChange plainSumsSpec)

/-- ITS FALSE NEIGHBOUR: 'it returns false'. Refute it at one input. -/
def plainSumsWrong : ChangeSpec := { name := "plainSums", fn := fun _ => fun
  | [d] => { results := [.lit (.bool false)], args := [d] }
  | _ => none }
def PlainSumsWrongFalsely : Prop := plainSumsRow.holds Tryz.pinned (OpenSpec.ofChange plainSumsWrong)

/-- 'posternlaw08.PlainQueue': WHATEVER THE INPUT: true; the input reads as it did. -/
def plainQueueSpec : ChangeSpec := { name := "plainQueue", fn := fun _ => fun
  | [d1, d2] => { results := [.lit (.bool true)], args := [d1, d2] }
  | _ => none }
def plainQueueRow : OpenClaim := { program := "ythebeomenjfdlaagreat", sum := "1b66d5c366d9131340a4b9c0afa9ad9669813339ef8453e25e3a818d24ea1878", func := "postern/posternlaw08.PlainQueue", spec := "plainQueue", unfollowed := true, recurses := true, loops := true, plainKeys := false, apart := false }
def PlainQueueSaid : Prop := plainQueueRow.holds Tryz.pinned (OpenSpec.ofChange plainQueueSpec)

/-- ITS FALSE NEIGHBOUR: 'it returns false'. Refute it at one input. -/
def plainQueueWrong : ChangeSpec := { name := "plainQueue", fn := fun _ => fun
  | [d1, d2] => { results := [.lit (.bool false)], args := [d1, d2] }
  | _ => none }
def PlainQueueWrongFalsely : Prop := plainQueueRow.holds Tryz.pinned (OpenSpec.ofChange plainQueueWrong)

/-- 'posternlaw08.PlainKeeps': WHATEVER THE INPUT: true; the input reads as it did. -/
def plainKeepsSpec : ChangeSpec := { name := "plainKeeps", fn := fun _ => fun
  | [d] => { results := [.lit (.bool true)], args := [d] }
  | _ => none }
def plainKeepsRow : OpenClaim := { program := "ythebeomenjfdlaagreat", sum := "1b66d5c366d9131340a4b9c0afa9ad9669813339ef8453e25e3a818d24ea1878", func := "postern/posternlaw08.PlainKeeps", spec := "plainKeeps", unfollowed := true, recurses := true, loops := true, plainKeys := false, apart := false }
def PlainKeepsSaid : Prop := plainKeepsRow.holds Tryz.pinned (OpenSpec.ofChange plainKeepsSpec)

/-- ITS FALSE NEIGHBOUR: 'it returns false'. Refute it at one input. -/
def plainKeepsWrong : ChangeSpec := { name := "plainKeeps", fn := fun _ => fun
  | [d] => { results := [.lit (.bool false)], args := [d] }
  | _ => none }
def PlainKeepsWrongFalsely : Prop := plainKeepsRow.holds Tryz.pinned (OpenSpec.ofChange plainKeepsWrong)

/-- 'posternlaw07.WorldNone': WHATEVER THE INPUT: true; the input reads as it did. -/
def worldNoneSpec : ChangeSpec := { name := "worldNone", fn := fun _ => fun
  | [d1, d2] => { results := [.lit (.bool true)], args := [d1, d2] }
  | _ => none }
def worldNoneRow : OpenClaim := { program := "ythebeomenjfdlaagreat", sum := "1b66d5c366d9131340a4b9c0afa9ad9669813339ef8453e25e3a818d24ea1878", func := "postern/posternlaw07.WorldNone", spec := "worldNone", unfollowed := true, recurses := true, loops := true, plainKeys := false, apart := false }
def WorldNoneSaid : Prop := worldNoneRow.holds Tryz.pinned (OpenSpec.ofChange worldNoneSpec)

/-- ITS FALSE NEIGHBOUR: 'it returns false'. Refute it at one input. -/
def worldNoneWrong : ChangeSpec := { name := "worldNone", fn := fun _ => fun
  | [d1, d2] => { results := [.lit (.bool false)], args := [d1, d2] }
  | _ => none }
def WorldNoneWrongFalsely : Prop := worldNoneRow.holds Tryz.pinned (OpenSpec.ofChange worldNoneWrong)

/- THE SECOND FORM. 'bulk': how many values and letters a reading holds, each counted each time it is reached (what is shared counts as often as it is met; a slice's spare places count too). A statement '..UptoSaid' is the law's where the arguments, and the package variables that the reading takes, are together of bulk at most 1048576: NARROWER than '..Said'. Prove '..Said' where nothing that the law and all that it calls make is longer than what came in: it says more and counts as full. Else prove '..UptoSaid'. A law counts once. -/
mutual
def uptoBulk {H : Type} : DataW H → Nat
  | .lit (.string bytes) => bytes.length + 1
  | .lit _ => 1
  | .nil => 1
  | .ptr d => uptoBulk d + 1
  | .slice elems spare => uptoBulkAll elems + uptoBulkAll spare + 1
  | .agg parts => uptoBulkAll parts + 1
  | .iface _ d => uptoBulk d + 1
  | .map entries => uptoBulkEntries entries + 1
  | .held _ => 1
def uptoBulkAll {H : Type} : List (DataW H) → Nat
  | [] => 0
  | d :: r => uptoBulk d + uptoBulkAll r
def uptoBulkEntries {H : Type} : List (Lit × DataW H) → Nat
  | [] => 0
  | x :: r => uptoBulkEntry x + uptoBulkEntries r
def uptoBulkEntry {H : Type} : Lit × DataW H → Nat
  | (.string bytes, d) => bytes.length + uptoBulk d + 1
  | (_, d) => uptoBulk d + 1
 end
def uptoSmall : (H : Type) → List (DataW H) → Bool := fun _ ds => decide (uptoBulkAll ds ≤ 1048576)
def OpenSpec.upto (s : _root_.Go.ChangeSpec) : _root_.Go.OpenSpec := { _root_.Go.OpenSpec.ofChange s with cond := some uptoSmall }

/-- 'posternlaw08.PlainApart', WHERE WHAT IT READS IS OF BULK AT MOST 1048576: true; the input reads as it did. -/
def plainApartUptoRow : OpenClaim := { program := "ythebeomenjfdlaagreat", sum := "1b66d5c366d9131340a4b9c0afa9ad9669813339ef8453e25e3a818d24ea1878", func := "postern/posternlaw08.PlainApart", spec := "plainApart", unfollowed := true, recurses := true, loops := true, plainKeys := false, apart := false, narrowed := true }
def PlainApartUptoSaid : Prop := plainApartUptoRow.holds Tryz.pinned (OpenSpec.upto plainApartSpec)

/-- 'posternlaw08.PlainNil', WHERE WHAT IT READS IS OF BULK AT MOST 1048576: true; the input reads as it did. -/
def plainNilUptoRow : OpenClaim := { program := "ythebeomenjfdlaagreat", sum := "1b66d5c366d9131340a4b9c0afa9ad9669813339ef8453e25e3a818d24ea1878", func := "postern/posternlaw08.PlainNil", spec := "plainNil", unfollowed := true, recurses := true, loops := true, plainKeys := false, apart := false, narrowed := true }
def PlainNilUptoSaid : Prop := plainNilUptoRow.holds Tryz.pinned (OpenSpec.upto plainNilSpec)

/-- 'posternlaw08.PlainSums', WHERE WHAT IT READS IS OF BULK AT MOST 1048576: true; the input reads as it did. -/
def plainSumsUptoRow : OpenClaim := { program := "ythebeomenjfdlaagreat", sum := "1b66d5c366d9131340a4b9c0afa9ad9669813339ef8453e25e3a818d24ea1878", func := "postern/posternlaw08.PlainSums", spec := "plainSums", unfollowed := true, recurses := true, plainKeys := false, apart := false, narrowed := true }
def PlainSumsUptoSaid : Prop := plainSumsUptoRow.holds Tryz.pinned (OpenSpec.upto plainSumsSpec)

/-- 'posternlaw08.PlainQueue', WHERE WHAT IT READS IS OF BULK AT MOST 1048576: true; the input reads as it did. -/
def plainQueueUptoRow : OpenClaim := { program := "ythebeomenjfdlaagreat", sum := "1b66d5c366d9131340a4b9c0afa9ad9669813339ef8453e25e3a818d24ea1878", func := "postern/posternlaw08.PlainQueue", spec := "plainQueue", unfollowed := true, recurses := true, loops := true, plainKeys := false, apart := false, narrowed := true }
def PlainQueueUptoSaid : Prop := plainQueueUptoRow.holds Tryz.pinned (OpenSpec.upto plainQueueSpec)

/-- 'posternlaw08.PlainKeeps', WHERE WHAT IT READS IS OF BULK AT MOST 1048576: true; the input reads as it did. -/
def plainKeepsUptoRow : OpenClaim := { program := "ythebeomenjfdlaagreat", sum := "1b66d5c366d9131340a4b9c0afa9ad9669813339ef8453e25e3a818d24ea1878", func := "postern/posternlaw08.PlainKeeps", spec := "plainKeeps", unfollowed := true, recurses := true, loops := true, plainKeys := false, apart := false, narrowed := true }
def PlainKeepsUptoSaid : Prop := plainKeepsUptoRow.holds Tryz.pinned (OpenSpec.upto plainKeepsSpec)

/-- 'posternlaw07.WorldNone', WHERE WHAT IT READS IS OF BULK AT MOST 1048576: true; the input reads as it did. -/
def worldNoneUptoRow : OpenClaim := { program := "ythebeomenjfdlaagreat", sum := "1b66d5c366d9131340a4b9c0afa9ad9669813339ef8453e25e3a818d24ea1878", func := "postern/posternlaw07.WorldNone", spec := "worldNone", unfollowed := true, recurses := true, loops := true, plainKeys := false, apart := false, narrowed := true }
def WorldNoneUptoSaid : Prop := worldNoneUptoRow.holds Tryz.pinned (OpenSpec.upto worldNoneSpec)

end Rows
end Go.Proofs.YthebeomenjfdlaaGreat
