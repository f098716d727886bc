/-
  DERIVED. GIVEN WITH THE SEED: THE CARDS: each row of YtjfnpokebaagmaaGreatDoorRows.lean that lists a variable, with what it lists TIED to the program's text (the seventh form; the later family's looks); each row that meets fmt, with fmt's text TOLD by the authors' own Lean function (tested against real Go, not proved from fmt's source: count such statements apart). THE CARD IS WHAT COUNTS. Prove the row's statement (the work); the ties are given (YtjfnpokebaagmaaGreatDoorTie.lean); close each card by the builder's one call (the guide's Derived/Test/ToyasCard.lean, 'card_holds'). Laid BY PROGRAM, IN A SANDBOX (cutbox-door.mjs). By AI agents, Wed Nov 11 2026. No macro, syntax, notation, axiom, sorry.
-/
import Derived.Test.YtjfnpokebaagmaaGreatDoorRows
import GoSem.ClaimSeven
namespace Go.Proofs.YtjfnpokebaagmaaGreatDoor
namespace Rows

/-- THE TIED CARD OF 'astrolabelaw21.BuildPlays'. -/
def buildPlaysCard : Claim7 := { stood := { row := buildPlaysRow, standIns := [], harness := (true, "d6ec8c28868f4275819a10d6f17fda66c255fd56bfdbc8e7924b07d22204b3d7"), looks := true }, kinds := [], alts := [], laidByText := true, laidKinds := [.data, .handle, .pinned], laidTests := true, laidLooks := .later }
def BuildPlaysCardSaid : Prop := Claim7.holds Tryz.pinned (.plain (OpenSpec.ofChange buildPlaysSpec)) buildPlaysCard

/-- THE TIED CARD OF 'astrolabelaw21.BuildLoops'. -/
def buildLoopsCard : Claim7 := { stood := { row := buildLoopsRow, standIns := [], harness := (true, "d6ec8c28868f4275819a10d6f17fda66c255fd56bfdbc8e7924b07d22204b3d7"), looks := true }, kinds := [], alts := [], laidByText := true, laidKinds := [.data, .handle, .data, .pinned], laidTests := true, laidLooks := .later }
def BuildLoopsCardSaid : Prop := Claim7.holds Tryz.pinned (.plain (OpenSpec.ofChange buildLoopsSpec)) buildLoopsCard

/-- THE SECOND FORM's CARD OF 'astrolabelaw21.BuildPlays'. -/
def buildPlaysUptoCard : Claim7 := { stood := { row := buildPlaysUptoRow, standIns := [], harness := (true, "d6ec8c28868f4275819a10d6f17fda66c255fd56bfdbc8e7924b07d22204b3d7"), looks := true }, kinds := [], alts := [], laidByText := true, laidKinds := [.data, .handle, .pinned], laidTests := true, laidLooks := .later }
def BuildPlaysUptoCardSaid : Prop := Claim7.holds Tryz.pinned (.plain (OpenSpec.upto buildPlaysSpec)) buildPlaysUptoCard

/-- THE SECOND FORM's CARD OF 'astrolabelaw21.BuildLoops'. -/
def buildLoopsUptoCard : Claim7 := { stood := { row := buildLoopsUptoRow, standIns := [], harness := (true, "d6ec8c28868f4275819a10d6f17fda66c255fd56bfdbc8e7924b07d22204b3d7"), looks := true }, kinds := [], alts := [], laidByText := true, laidKinds := [.data, .handle, .data, .pinned], laidTests := true, laidLooks := .later }
def BuildLoopsUptoCardSaid : Prop := Claim7.holds Tryz.pinned (.plain (OpenSpec.upto buildLoopsSpec)) buildLoopsUptoCard
end Rows
end Go.Proofs.YtjfnpokebaagmaaGreatDoor
