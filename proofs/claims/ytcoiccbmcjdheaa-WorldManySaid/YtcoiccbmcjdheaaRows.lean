/-
  NARROWER THAN 'FOR EVERY INPUT', by the rows' own cells (each row's printed sentence says how): WorldFacets: loops.
  DERIVED. THE GIVEN ROWS OF THIS SEAT. 2 by the template 'for every input the law returns true; each argument reads behind the call as it read before'; 0 by the template 'total and deterministic' (their statements: YtcoiccbmcjdheaaTotals.lean).
  GIVEN WITH THE SEED: the statements are not yours to turn. If you find one false, say at which input.
  Laid BY PROGRAM, IN A SANDBOX (cutbox-rows.mjs): the forced cells as the released guide's own fill.sh prints them over the translation 0a699bff4a07d7b0… (all of the seat's roots in one cut). By AI agents, Wed Nov 11 2026. No macro, syntax, notation, axiom, sorry.
-/
import Derived.Test.YtcoiccbmcjdheaaChecked
import GoSem.Claim
import GoSem.ClaimJoined
import GoSem.ClaimMapViews
import Derived.JoinedTies
import Derived.KernelRfl
namespace Go.Proofs.Ytcoiccbmcjdheaa
/- THE CELL 'sum', in the pinned program and in every row, IS THE sha256 OF THE DUMP (.gsa) THAT YtcoiccbmcjdheaaProg.lean LOADS. Nothing in Lean hashes anything: it is a label: what it is worth is what the hold of that sum in a sandbox is worth. -/
noncomputable def Try.pinned : Pinned := { name := "ytcoiccbmcjdheaa", sum := "0a699bff4a07d7b0f5fd6b00f8175f037ffb2ecbbe9c70f532a2ae21c010a8f1", checked := Try.checked }
namespace Rows
def none {H : Type} : Left H := { results := [], args := [] }

/-- 'posternlaw07.WorldMany': WHATEVER THE INPUT: true; the input reads as it did. -/
def worldManySpec : ChangeSpec := { name := "worldMany", fn := fun _ => fun
  | [] => { results := [.lit (.bool true)], args := [] }
  | _ => none }
def worldManyRow : OpenClaim := { program := "ytcoiccbmcjdheaa", sum := "0a699bff4a07d7b0f5fd6b00f8175f037ffb2ecbbe9c70f532a2ae21c010a8f1", func := "postern/posternlaw07.WorldMany", spec := "worldMany", unfollowed := true, recurses := true, plainKeys := false, apart := false }
def WorldManySaid : Prop := worldManyRow.holds Try.pinned (OpenSpec.ofChange worldManySpec)

/-- ITS FALSE NEIGHBOUR: 'it returns false'. Refute it at one input. -/
def worldManyWrong : ChangeSpec := { name := "worldMany", fn := fun _ => fun
  | [] => { results := [.lit (.bool false)], args := [] }
  | _ => none }
def WorldManyWrongFalsely : Prop := worldManyRow.holds Try.pinned (OpenSpec.ofChange worldManyWrong)

/-- 'posternlaw07.WorldFacets': WHATEVER THE INPUT: true; the input reads as it did. -/
def worldFacetsSpec : ChangeSpec := { name := "worldFacets", fn := fun _ => fun
  | [d1, d2, d3] => { results := [.lit (.bool true)], args := [d1, d2, d3] }
  | _ => none }
def worldFacetsRow : OpenClaim := { program := "ytcoiccbmcjdheaa", sum := "0a699bff4a07d7b0f5fd6b00f8175f037ffb2ecbbe9c70f532a2ae21c010a8f1", func := "postern/posternlaw07.WorldFacets", spec := "worldFacets", unfollowed := true, recurses := true, loops := true, plainKeys := false, apart := false }
def WorldFacetsSaid : Prop := worldFacetsRow.holds Try.pinned (OpenSpec.ofChange worldFacetsSpec)

/-- ITS FALSE NEIGHBOUR: 'it returns false'. Refute it at one input. -/
def worldFacetsWrong : ChangeSpec := { name := "worldFacets", fn := fun _ => fun
  | [d1, d2, d3] => { results := [.lit (.bool false)], args := [d1, d2, d3] }
  | _ => none }
def WorldFacetsWrongFalsely : Prop := worldFacetsRow.holds Try.pinned (OpenSpec.ofChange worldFacetsWrong)

/- THE SECOND FORM. 'bulk': how many values and letters a reading holds, each counted each time it is reached (what is shared counts as often as it is met; a slice's spare places count too). A statement '..UptoSaid' is the law's where the arguments, and the package variables that the reading takes, are together of bulk at most 1048576: NARROWER than '..Said'. Prove '..Said' where nothing that the law and all that it calls make is longer than what came in: it says more and counts as full. Else prove '..UptoSaid'. A law counts once. -/
mutual
def uptoBulk {H : Type} : DataW H → Nat
  | .lit (.string bytes) => bytes.length + 1
  | .lit _ => 1
  | .nil => 1
  | .ptr d => uptoBulk d + 1
  | .slice elems spare => uptoBulkAll elems + uptoBulkAll spare + 1
  | .agg parts => uptoBulkAll parts + 1
  | .iface _ d => uptoBulk d + 1
  | .map entries => uptoBulkEntries entries + 1
  | .held _ => 1
def uptoBulkAll {H : Type} : List (DataW H) → Nat
  | [] => 0
  | d :: r => uptoBulk d + uptoBulkAll r
def uptoBulkEntries {H : Type} : List (Lit × DataW H) → Nat
  | [] => 0
  | x :: r => uptoBulkEntry x + uptoBulkEntries r
def uptoBulkEntry {H : Type} : Lit × DataW H → Nat
  | (.string bytes, d) => bytes.length + uptoBulk d + 1
  | (_, d) => uptoBulk d + 1
 end
def uptoSmall : (H : Type) → List (DataW H) → Bool := fun _ ds => decide (uptoBulkAll ds ≤ 1048576)
def OpenSpec.upto (s : _root_.Go.ChangeSpec) : _root_.Go.OpenSpec := { _root_.Go.OpenSpec.ofChange s with cond := some uptoSmall }

/-- 'posternlaw07.WorldMany', WHERE WHAT IT READS IS OF BULK AT MOST 1048576: true; the input reads as it did. -/
def worldManyUptoRow : OpenClaim := { program := "ytcoiccbmcjdheaa", sum := "0a699bff4a07d7b0f5fd6b00f8175f037ffb2ecbbe9c70f532a2ae21c010a8f1", func := "postern/posternlaw07.WorldMany", spec := "worldMany", unfollowed := true, recurses := true, plainKeys := false, apart := false, narrowed := true }
def WorldManyUptoSaid : Prop := worldManyUptoRow.holds Try.pinned (OpenSpec.upto worldManySpec)

/-- 'posternlaw07.WorldFacets', WHERE WHAT IT READS IS OF BULK AT MOST 1048576: true; the input reads as it did. -/
def worldFacetsUptoRow : OpenClaim := { program := "ytcoiccbmcjdheaa", sum := "0a699bff4a07d7b0f5fd6b00f8175f037ffb2ecbbe9c70f532a2ae21c010a8f1", func := "postern/posternlaw07.WorldFacets", spec := "worldFacets", unfollowed := true, recurses := true, loops := true, plainKeys := false, apart := false, narrowed := true }
def WorldFacetsUptoSaid : Prop := worldFacetsUptoRow.holds Try.pinned (OpenSpec.upto worldFacetsSpec)

end Rows
end Go.Proofs.Ytcoiccbmcjdheaa
