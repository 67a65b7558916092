/-
  DERIVED. GIVEN WITH THE SEED: THE CARDS: each row of YtifmifjbebpomaaGreatDoorRows.lean that lists a variable, with what it lists TIED to the program's text (the seventh form; the later family's looks); each row that meets fmt, with fmt's text TOLD by the authors' own Lean function (tested against real Go, not proved from fmt's source: count such statements apart). THE CARD IS WHAT COUNTS. Prove the row's statement (the work); the ties are given (YtifmifjbebpomaaGreatDoorTie.lean); close each card by the builder's one call (the guide's Derived/Test/ToyasCard.lean, 'card_holds'). Laid BY PROGRAM, IN A SANDBOX (cutbox-door.mjs). By AI agents, Wed Nov 11 2026. No macro, syntax, notation, axiom, sorry.
-/
import Derived.Test.YtifmifjbebpomaaGreatDoorRows
import GoSem.ClaimSeven
namespace Go.Proofs.YtifmifjbebpomaaGreatDoor
namespace Rows

/-- THE TIED CARD OF 'posternlaw15.WallNames'. -/
def wallNamesCard : Claim7 := { stood := { row := wallNamesRow, standIns := [], harness := (true, "38c214da023e9e9832e526e4d15aaee207136874991c83d4864de197c38cefaf"), looks := true }, kinds := [], alts := [], laidByText := true, laidKinds := [.data, .data, .handle], laidTests := true, laidLooks := .later }
def WallNamesCardSaid : Prop := Claim7.holds Tryz.pinned (.plain (OpenSpec.ofChange wallNamesSpec)) wallNamesCard

/-- THE TIED CARD OF 'posternlaw15.WallNone'. -/
def wallNoneCard : Claim7 := { stood := { row := wallNoneRow, standIns := [], harness := (true, "38c214da023e9e9832e526e4d15aaee207136874991c83d4864de197c38cefaf"), looks := true }, kinds := [], alts := [], laidByText := true, laidKinds := [.data, .data, .handle], laidTests := true, laidLooks := .later }
def WallNoneCardSaid : Prop := Claim7.holds Tryz.pinned (.plain (OpenSpec.ofChange wallNoneSpec)) wallNoneCard

/-- THE SECOND FORM's CARD OF 'posternlaw15.WallNames'. -/
def wallNamesUptoCard : Claim7 := { stood := { row := wallNamesUptoRow, standIns := [], harness := (true, "38c214da023e9e9832e526e4d15aaee207136874991c83d4864de197c38cefaf"), looks := true }, kinds := [], alts := [], laidByText := true, laidKinds := [.data, .data, .handle], laidTests := true, laidLooks := .later }
def WallNamesUptoCardSaid : Prop := Claim7.holds Tryz.pinned (.plain (OpenSpec.upto wallNamesSpec)) wallNamesUptoCard

/-- THE SECOND FORM's CARD OF 'posternlaw15.WallNone'. -/
def wallNoneUptoCard : Claim7 := { stood := { row := wallNoneUptoRow, standIns := [], harness := (true, "38c214da023e9e9832e526e4d15aaee207136874991c83d4864de197c38cefaf"), looks := true }, kinds := [], alts := [], laidByText := true, laidKinds := [.data, .data, .handle], laidTests := true, laidLooks := .later }
def WallNoneUptoCardSaid : Prop := Claim7.holds Tryz.pinned (.plain (OpenSpec.upto wallNoneSpec)) wallNoneUptoCard
end Rows
end Go.Proofs.YtifmifjbebpomaaGreatDoor
