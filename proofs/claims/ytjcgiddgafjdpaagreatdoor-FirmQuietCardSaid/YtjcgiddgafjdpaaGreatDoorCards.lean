/-
  DERIVED. GIVEN WITH THE SEED: THE CARDS: each row of YtjcgiddgafjdpaaGreatDoorRows.lean that lists a variable, with what it lists TIED to the program's text (the seventh form; the later family's looks); each row that meets fmt, with fmt's text TOLD by the authors' own Lean function (tested against real Go, not proved from fmt's source: count such statements apart). THE CARD IS WHAT COUNTS. Prove the row's statement (the work); the ties are given (YtjcgiddgafjdpaaGreatDoorTie.lean); close each card by the builder's one call (the guide's Derived/Test/ToyasCard.lean, 'card_holds'). Laid BY PROGRAM, IN A SANDBOX (cutbox-door.mjs). By AI agents, Wed Nov 11 2026. No macro, syntax, notation, axiom, sorry.
-/
import Derived.Test.YtjcgiddgafjdpaaGreatDoorRows
import GoSem.ClaimSeven
namespace Go.Proofs.YtjcgiddgafjdpaaGreatDoor
namespace Rows

/-- THE TIED CARD OF 'astrolabelaw38.FirmRefuses'. -/
def firmRefusesCard : Claim7 := { stood := { row := firmRefusesRow, standIns := [], harness := (true, "341cad4294ab376a66ce73b72c182ff723295af070cf62e2a64aba5288c5b19f"), looks := true }, kinds := [], alts := [], laidByText := true, laidKinds := [.data, .data, .data, .data, .handle, .data, .pinned], laidTests := true, laidLooks := .later }
def FirmRefusesCardSaid : Prop := Claim7.holds Tryz.pinned (.plain (OpenSpec.ofChange firmRefusesSpec)) firmRefusesCard

/-- THE TIED CARD OF 'astrolabelaw38.FirmQuiet'. -/
def firmQuietCard : Claim7 := { stood := { row := firmQuietRow, standIns := [], harness := (true, "341cad4294ab376a66ce73b72c182ff723295af070cf62e2a64aba5288c5b19f"), looks := true }, kinds := [], alts := [], laidByText := true, laidKinds := [.data, .data, .data, .data, .handle, .data, .pinned], laidTests := true, laidLooks := .later }
def FirmQuietCardSaid : Prop := Claim7.holds Tryz.pinned (.plain (OpenSpec.ofChange firmQuietSpec)) firmQuietCard

/-- THE TIED CARD OF 'astrolabelaw38.FirmTold'. -/
def firmToldCard : Claim7 := { stood := { row := firmToldRow, standIns := [], harness := (true, "341cad4294ab376a66ce73b72c182ff723295af070cf62e2a64aba5288c5b19f"), looks := true }, kinds := [], alts := [], laidByText := true, laidKinds := [.data, .data, .data, .data, .handle, .data, .pinned], laidTests := true, laidLooks := .later }
def FirmToldCardSaid : Prop := Claim7.holds Tryz.pinned (.plain (OpenSpec.ofChange firmToldSpec)) firmToldCard

/-- THE TIED CARD OF 'astrolabelaw38.FirmRuns'. -/
def firmRunsCard : Claim7 := { stood := { row := firmRunsRow, standIns := [], harness := (true, "341cad4294ab376a66ce73b72c182ff723295af070cf62e2a64aba5288c5b19f"), looks := true }, kinds := [], alts := [], laidByText := true, laidKinds := [.data, .data, .data, .data, .handle, .data, .pinned], laidTests := true, laidLooks := .later }
def FirmRunsCardSaid : Prop := Claim7.holds Tryz.pinned (.plain (OpenSpec.ofChange firmRunsSpec)) firmRunsCard

/-- THE SECOND FORM's CARD OF 'astrolabelaw38.FirmRefuses'. -/
def firmRefusesUptoCard : Claim7 := { stood := { row := firmRefusesUptoRow, standIns := [], harness := (true, "341cad4294ab376a66ce73b72c182ff723295af070cf62e2a64aba5288c5b19f"), looks := true }, kinds := [], alts := [], laidByText := true, laidKinds := [.data, .data, .data, .data, .handle, .data, .pinned], laidTests := true, laidLooks := .later }
def FirmRefusesUptoCardSaid : Prop := Claim7.holds Tryz.pinned (.plain (OpenSpec.upto firmRefusesSpec)) firmRefusesUptoCard

/-- THE SECOND FORM's CARD OF 'astrolabelaw38.FirmQuiet'. -/
def firmQuietUptoCard : Claim7 := { stood := { row := firmQuietUptoRow, standIns := [], harness := (true, "341cad4294ab376a66ce73b72c182ff723295af070cf62e2a64aba5288c5b19f"), looks := true }, kinds := [], alts := [], laidByText := true, laidKinds := [.data, .data, .data, .data, .handle, .data, .pinned], laidTests := true, laidLooks := .later }
def FirmQuietUptoCardSaid : Prop := Claim7.holds Tryz.pinned (.plain (OpenSpec.upto firmQuietSpec)) firmQuietUptoCard

/-- THE SECOND FORM's CARD OF 'astrolabelaw38.FirmTold'. -/
def firmToldUptoCard : Claim7 := { stood := { row := firmToldUptoRow, standIns := [], harness := (true, "341cad4294ab376a66ce73b72c182ff723295af070cf62e2a64aba5288c5b19f"), looks := true }, kinds := [], alts := [], laidByText := true, laidKinds := [.data, .data, .data, .data, .handle, .data, .pinned], laidTests := true, laidLooks := .later }
def FirmToldUptoCardSaid : Prop := Claim7.holds Tryz.pinned (.plain (OpenSpec.upto firmToldSpec)) firmToldUptoCard

/-- THE SECOND FORM's CARD OF 'astrolabelaw38.FirmRuns'. -/
def firmRunsUptoCard : Claim7 := { stood := { row := firmRunsUptoRow, standIns := [], harness := (true, "341cad4294ab376a66ce73b72c182ff723295af070cf62e2a64aba5288c5b19f"), looks := true }, kinds := [], alts := [], laidByText := true, laidKinds := [.data, .data, .data, .data, .handle, .data, .pinned], laidTests := true, laidLooks := .later }
def FirmRunsUptoCardSaid : Prop := Claim7.holds Tryz.pinned (.plain (OpenSpec.upto firmRunsSpec)) firmRunsUptoCard
end Rows
end Go.Proofs.YtjcgiddgafjdpaaGreatDoor
