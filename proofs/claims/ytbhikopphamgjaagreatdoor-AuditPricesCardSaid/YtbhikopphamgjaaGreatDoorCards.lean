/-
  DERIVED. GIVEN WITH THE SEED: THE CARDS: each row of YtbhikopphamgjaaGreatDoorRows.lean that lists a variable, with what it lists TIED to the program's text (the seventh form; the later family's looks); each row that meets fmt, with fmt's text TOLD by the authors' own Lean function (tested against real Go, not proved from fmt's source: count such statements apart). THE CARD IS WHAT COUNTS. Prove the row's statement (the work); the ties are given (YtbhikopphamgjaaGreatDoorTie.lean); close each card by the builder's one call (the guide's Derived/Test/ToyasCard.lean, 'card_holds'). Laid BY PROGRAM, IN A SANDBOX (cutbox-door.mjs). By AI agents, Wed Nov 11 2026. No macro, syntax, notation, axiom, sorry.
-/
import Derived.Test.YtbhikopphamgjaaGreatDoorRows
import GoSem.ClaimSeven
namespace Go.Proofs.YtbhikopphamgjaaGreatDoor
namespace Rows

/-- THE TIED CARD OF 'astrolabelaw41.AuditShapes'. -/
def auditShapesCard : Claim7 := { stood := { row := auditShapesRow, standIns := [], harness := (true, "867ce401e1cf70793f5cea4a889a1d16708f62741de5f142ccabb52b7ac3e727"), looks := true }, kinds := [], alts := [], laidByText := true, laidKinds := [.data, .data, .data, .data, .data, .handle, .sentinel, .sentinel, .data, .pinned], laidTests := true, laidLooks := .later }
def AuditShapesCardSaid : Prop := Claim7.holds Tryz.pinned (.plain (OpenSpec.ofChange auditShapesSpec)) auditShapesCard

/-- THE TIED CARD OF 'astrolabelaw41.AuditQuiet'. -/
def auditQuietCard : Claim7 := { stood := { row := auditQuietRow, standIns := [], harness := (true, "867ce401e1cf70793f5cea4a889a1d16708f62741de5f142ccabb52b7ac3e727"), looks := true }, kinds := [], alts := [], laidByText := true, laidKinds := [.data, .data, .data, .data, .data, .handle, .sentinel, .sentinel, .data, .pinned], laidTests := true, laidLooks := .later }
def AuditQuietCardSaid : Prop := Claim7.holds Tryz.pinned (.plain (OpenSpec.ofChange auditQuietSpec)) auditQuietCard

/-- THE TIED CARD OF 'astrolabelaw41.AuditPrices'. -/
def auditPricesCard : Claim7 := { stood := { row := auditPricesRow, standIns := [], harness := (true, "867ce401e1cf70793f5cea4a889a1d16708f62741de5f142ccabb52b7ac3e727"), looks := true }, kinds := [], alts := [], laidByText := true, laidKinds := [.data, .data, .data, .data, .data, .handle, .sentinel, .sentinel, .data, .pinned], laidTests := true, laidLooks := .later }
def AuditPricesCardSaid : Prop := Claim7.holds Tryz.pinned (.plain (OpenSpec.ofChange auditPricesSpec)) auditPricesCard

/-- THE SECOND FORM's CARD OF 'astrolabelaw41.AuditShapes'. -/
def auditShapesUptoCard : Claim7 := { stood := { row := auditShapesUptoRow, standIns := [], harness := (true, "867ce401e1cf70793f5cea4a889a1d16708f62741de5f142ccabb52b7ac3e727"), looks := true }, kinds := [], alts := [], laidByText := true, laidKinds := [.data, .data, .data, .data, .data, .handle, .sentinel, .sentinel, .data, .pinned], laidTests := true, laidLooks := .later }
def AuditShapesUptoCardSaid : Prop := Claim7.holds Tryz.pinned (.plain (OpenSpec.upto auditShapesSpec)) auditShapesUptoCard

/-- THE SECOND FORM's CARD OF 'astrolabelaw41.AuditQuiet'. -/
def auditQuietUptoCard : Claim7 := { stood := { row := auditQuietUptoRow, standIns := [], harness := (true, "867ce401e1cf70793f5cea4a889a1d16708f62741de5f142ccabb52b7ac3e727"), looks := true }, kinds := [], alts := [], laidByText := true, laidKinds := [.data, .data, .data, .data, .data, .handle, .sentinel, .sentinel, .data, .pinned], laidTests := true, laidLooks := .later }
def AuditQuietUptoCardSaid : Prop := Claim7.holds Tryz.pinned (.plain (OpenSpec.upto auditQuietSpec)) auditQuietUptoCard

/-- THE SECOND FORM's CARD OF 'astrolabelaw41.AuditPrices'. -/
def auditPricesUptoCard : Claim7 := { stood := { row := auditPricesUptoRow, standIns := [], harness := (true, "867ce401e1cf70793f5cea4a889a1d16708f62741de5f142ccabb52b7ac3e727"), looks := true }, kinds := [], alts := [], laidByText := true, laidKinds := [.data, .data, .data, .data, .data, .handle, .sentinel, .sentinel, .data, .pinned], laidTests := true, laidLooks := .later }
def AuditPricesUptoCardSaid : Prop := Claim7.holds Tryz.pinned (.plain (OpenSpec.upto auditPricesSpec)) auditPricesUptoCard
end Rows
end Go.Proofs.YtbhikopphamgjaaGreatDoor
