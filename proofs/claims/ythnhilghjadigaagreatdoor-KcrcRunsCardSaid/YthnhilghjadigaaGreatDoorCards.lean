/-
  DERIVED. GIVEN WITH THE SEED: THE CARDS: each row of YthnhilghjadigaaGreatDoorRows.lean that lists a variable, with what it lists TIED to the program's text (the seventh form; the later family's looks); each row that meets fmt, with fmt's text TOLD by the authors' own Lean function (tested against real Go, not proved from fmt's source: count such statements apart). THE CARD IS WHAT COUNTS. Prove the row's statement (the work); the ties are given (YthnhilghjadigaaGreatDoorTie.lean); close each card by the builder's one call (the guide's Derived/Test/ToyasCard.lean, 'card_holds'). Laid BY PROGRAM, IN A SANDBOX (cutbox-door.mjs). By AI agents, Wed Nov 11 2026. No macro, syntax, notation, axiom, sorry.
-/
import Derived.Test.YthnhilghjadigaaGreatDoorRows
import GoSem.ClaimSeven
namespace Go.Proofs.YthnhilghjadigaaGreatDoor
namespace Rows

/-- THE TIED CARD OF 'astrolabelaw30.KcrcRuns'. -/
def kcrcRunsCard : Claim7 := { stood := { row := kcrcRunsRow, standIns := [], harness := (true, "5d029e92090b3e10c9f3c9f32e1eb88b8fcf56911c4d47dd278be33c5b777f8b"), looks := true }, kinds := [], alts := [], laidByText := true, laidKinds := [.data, .data, .data, .data, .handle, .data, .pinned], laidTests := true, laidLooks := .later }
def KcrcRunsCardSaid : Prop := Claim7.holds Tryz.pinned (.plain (OpenSpec.ofChange kcrcRunsSpec)) kcrcRunsCard

/-- THE TIED CARD OF 'astrolabelaw30.KcrcQuiet'. -/
def kcrcQuietCard : Claim7 := { stood := { row := kcrcQuietRow, standIns := [], harness := (true, "5d029e92090b3e10c9f3c9f32e1eb88b8fcf56911c4d47dd278be33c5b777f8b"), looks := true }, kinds := [], alts := [], laidByText := true, laidKinds := [.data, .data, .data, .data, .handle, .data, .pinned], laidTests := true, laidLooks := .later }
def KcrcQuietCardSaid : Prop := Claim7.holds Tryz.pinned (.plain (OpenSpec.ofChange kcrcQuietSpec)) kcrcQuietCard

/-- THE SECOND FORM's CARD OF 'astrolabelaw30.KcrcRuns'. -/
def kcrcRunsUptoCard : Claim7 := { stood := { row := kcrcRunsUptoRow, standIns := [], harness := (true, "5d029e92090b3e10c9f3c9f32e1eb88b8fcf56911c4d47dd278be33c5b777f8b"), looks := true }, kinds := [], alts := [], laidByText := true, laidKinds := [.data, .data, .data, .data, .handle, .data, .pinned], laidTests := true, laidLooks := .later }
def KcrcRunsUptoCardSaid : Prop := Claim7.holds Tryz.pinned (.plain (OpenSpec.upto kcrcRunsSpec)) kcrcRunsUptoCard

/-- THE SECOND FORM's CARD OF 'astrolabelaw30.KcrcQuiet'. -/
def kcrcQuietUptoCard : Claim7 := { stood := { row := kcrcQuietUptoRow, standIns := [], harness := (true, "5d029e92090b3e10c9f3c9f32e1eb88b8fcf56911c4d47dd278be33c5b777f8b"), looks := true }, kinds := [], alts := [], laidByText := true, laidKinds := [.data, .data, .data, .data, .handle, .data, .pinned], laidTests := true, laidLooks := .later }
def KcrcQuietUptoCardSaid : Prop := Claim7.holds Tryz.pinned (.plain (OpenSpec.upto kcrcQuietSpec)) kcrcQuietUptoCard
end Rows
end Go.Proofs.YthnhilghjadigaaGreatDoor
