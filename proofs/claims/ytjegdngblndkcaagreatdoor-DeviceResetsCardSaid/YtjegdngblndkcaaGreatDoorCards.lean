/-
  DERIVED. GIVEN WITH THE SEED: THE CARDS: each row of YtjegdngblndkcaaGreatDoorRows.lean that lists a variable, with what it lists TIED to the program's text (the seventh form; the later family's looks); each row that meets fmt, with fmt's text TOLD by the authors' own Lean function (tested against real Go, not proved from fmt's source: count such statements apart). THE CARD IS WHAT COUNTS. Prove the row's statement (the work); the ties are given (YtjegdngblndkcaaGreatDoorTie.lean); close each card by the builder's one call (the guide's Derived/Test/ToyasCard.lean, 'card_holds'). Laid BY PROGRAM, IN A SANDBOX (cutbox-door.mjs). By AI agents, Wed Nov 11 2026. No macro, syntax, notation, axiom, sorry.
-/
import Derived.Test.YtjegdngblndkcaaGreatDoorRows
import GoSem.ClaimSeven
namespace Go.Proofs.YtjegdngblndkcaaGreatDoor
namespace Rows

/-- THE TIED CARD OF 'astrolabelaw39.DeviceMarks'. -/
def deviceMarksCard : Claim7 := { stood := { row := deviceMarksRow, standIns := [], harness := (true, "3bdeae2913299b4dab557a6eed287cf8c1a9ad7e4d356c488b9e1f2b92bc7d00"), looks := true }, kinds := [], alts := [], laidByText := true, laidKinds := [.data, .data, .data, .data, .data, .handle, .sentinel, .sentinel, .data, .pinned], laidTests := true, laidLooks := .later }
def DeviceMarksCardSaid : Prop := Claim7.holds Tryz.pinned (.plain (OpenSpec.ofChange deviceMarksSpec)) deviceMarksCard

/-- THE TIED CARD OF 'astrolabelaw39.DeviceResets'. -/
def deviceResetsCard : Claim7 := { stood := { row := deviceResetsRow, standIns := [], harness := (true, "3bdeae2913299b4dab557a6eed287cf8c1a9ad7e4d356c488b9e1f2b92bc7d00"), looks := true }, kinds := [], alts := [], laidByText := true, laidKinds := [.data, .data, .data, .data, .data, .handle, .sentinel, .sentinel, .data, .pinned], laidTests := true, laidLooks := .later }
def DeviceResetsCardSaid : Prop := Claim7.holds Tryz.pinned (.plain (OpenSpec.ofChange deviceResetsSpec)) deviceResetsCard

/-- THE SECOND FORM's CARD OF 'astrolabelaw39.DeviceMarks'. -/
def deviceMarksUptoCard : Claim7 := { stood := { row := deviceMarksUptoRow, standIns := [], harness := (true, "3bdeae2913299b4dab557a6eed287cf8c1a9ad7e4d356c488b9e1f2b92bc7d00"), looks := true }, kinds := [], alts := [], laidByText := true, laidKinds := [.data, .data, .data, .data, .data, .handle, .sentinel, .sentinel, .data, .pinned], laidTests := true, laidLooks := .later }
def DeviceMarksUptoCardSaid : Prop := Claim7.holds Tryz.pinned (.plain (OpenSpec.upto deviceMarksSpec)) deviceMarksUptoCard

/-- THE SECOND FORM's CARD OF 'astrolabelaw39.DeviceResets'. -/
def deviceResetsUptoCard : Claim7 := { stood := { row := deviceResetsUptoRow, standIns := [], harness := (true, "3bdeae2913299b4dab557a6eed287cf8c1a9ad7e4d356c488b9e1f2b92bc7d00"), looks := true }, kinds := [], alts := [], laidByText := true, laidKinds := [.data, .data, .data, .data, .data, .handle, .sentinel, .sentinel, .data, .pinned], laidTests := true, laidLooks := .later }
def DeviceResetsUptoCardSaid : Prop := Claim7.holds Tryz.pinned (.plain (OpenSpec.upto deviceResetsSpec)) deviceResetsUptoCard
end Rows
end Go.Proofs.YtjegdngblndkcaaGreatDoor
