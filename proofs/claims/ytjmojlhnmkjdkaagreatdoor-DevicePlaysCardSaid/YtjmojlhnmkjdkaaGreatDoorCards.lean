/-
  DERIVED. GIVEN WITH THE SEED: THE CARDS: each row of YtjmojlhnmkjdkaaGreatDoorRows.lean that lists a variable, with what it lists TIED to the program's text (the seventh form; the later family's looks); each row that meets fmt, with fmt's text TOLD by the authors' own Lean function (tested against real Go, not proved from fmt's source: count such statements apart). THE CARD IS WHAT COUNTS. Prove the row's statement (the work); the ties are given (YtjmojlhnmkjdkaaGreatDoorTie.lean); close each card by the builder's one call (the guide's Derived/Test/ToyasCard.lean, 'card_holds'). Laid BY PROGRAM, IN A SANDBOX (cutbox-door.mjs). By AI agents, Wed Nov 11 2026. No macro, syntax, notation, axiom, sorry.
-/
import Derived.Test.YtjmojlhnmkjdkaaGreatDoorRows
import GoSem.ClaimSeven
namespace Go.Proofs.YtjmojlhnmkjdkaaGreatDoor
namespace Rows

/-- THE TIED CARD OF 'astrolabelaw38.FirmRuns'. -/
def firmRunsCard : Claim7 := { stood := { row := firmRunsRow, standIns := [], harness := (true, "d0f717b1d3caf5a577419d9e074b0e2f6b3bf659a1199d5f179e8955cceed409"), looks := true }, kinds := [], alts := [], laidByText := true, laidKinds := [.data, .data, .data, .data, .handle, .data, .pinned], laidTests := true, laidLooks := .later }
def FirmRunsCardSaid : Prop := Claim7.holds Tryz.pinned (.plain (OpenSpec.ofChange firmRunsSpec)) firmRunsCard

/-- THE TIED CARD OF 'astrolabelaw39.DevicePlays'. -/
def devicePlaysCard : Claim7 := { stood := { row := devicePlaysRow, standIns := [], harness := (true, "d0f717b1d3caf5a577419d9e074b0e2f6b3bf659a1199d5f179e8955cceed409"), looks := true }, kinds := [], alts := [], laidByText := true, laidKinds := [.data, .data, .data, .data, .data, .handle, .sentinel, .sentinel, .data, .pinned], laidTests := true, laidLooks := .later }
def DevicePlaysCardSaid : Prop := Claim7.holds Tryz.pinned (.plain (OpenSpec.ofChange devicePlaysSpec)) devicePlaysCard

/-- THE SECOND FORM's CARD OF 'astrolabelaw38.FirmRuns'. -/
def firmRunsUptoCard : Claim7 := { stood := { row := firmRunsUptoRow, standIns := [], harness := (true, "d0f717b1d3caf5a577419d9e074b0e2f6b3bf659a1199d5f179e8955cceed409"), looks := true }, kinds := [], alts := [], laidByText := true, laidKinds := [.data, .data, .data, .data, .handle, .data, .pinned], laidTests := true, laidLooks := .later }
def FirmRunsUptoCardSaid : Prop := Claim7.holds Tryz.pinned (.plain (OpenSpec.upto firmRunsSpec)) firmRunsUptoCard

/-- THE SECOND FORM's CARD OF 'astrolabelaw39.DevicePlays'. -/
def devicePlaysUptoCard : Claim7 := { stood := { row := devicePlaysUptoRow, standIns := [], harness := (true, "d0f717b1d3caf5a577419d9e074b0e2f6b3bf659a1199d5f179e8955cceed409"), looks := true }, kinds := [], alts := [], laidByText := true, laidKinds := [.data, .data, .data, .data, .data, .handle, .sentinel, .sentinel, .data, .pinned], laidTests := true, laidLooks := .later }
def DevicePlaysUptoCardSaid : Prop := Claim7.holds Tryz.pinned (.plain (OpenSpec.upto devicePlaysSpec)) devicePlaysUptoCard
end Rows
end Go.Proofs.YtjmojlhnmkjdkaaGreatDoor
