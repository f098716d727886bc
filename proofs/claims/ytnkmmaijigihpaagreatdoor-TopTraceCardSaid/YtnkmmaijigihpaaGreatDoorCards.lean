/-
  DERIVED. GIVEN WITH THE SEED: THE CARDS: each row of YtnkmmaijigihpaaGreatDoorRows.lean that lists a variable, with what it lists TIED to the program's text (the seventh form; the later family's looks); each row that meets fmt, with fmt's text TOLD by the authors' own Lean function (tested against real Go, not proved from fmt's source: count such statements apart). THE CARD IS WHAT COUNTS. Prove the row's statement (the work); the ties are given (YtnkmmaijigihpaaGreatDoorTie.lean); close each card by the builder's one call (the guide's Derived/Test/ToyasCard.lean, 'card_holds'). Laid BY PROGRAM, IN A SANDBOX (cutbox-door.mjs). By AI agents, Wed Nov 11 2026. No macro, syntax, notation, axiom, sorry.
-/
import Derived.Test.YtnkmmaijigihpaaGreatDoorRows
import GoSem.ClaimSeven
namespace Go.Proofs.YtnkmmaijigihpaaGreatDoor
namespace Rows

/-- THE TIED CARD OF 'astrolabetop.TopTrace'. -/
def topTraceCard : Claim7 := { stood := { row := topTraceRow, standIns := [], harness := (true, "2b0fcf0991fc2e99c6d07552f611bf3747455663ca248adf9a61d4cf6323b281"), looks := true }, kinds := [], alts := [], laidByText := true, laidKinds := [.data, .data, .data, .data, .data, .handle, .sentinel, .sentinel, .data, .pinned], laidTests := true, laidLooks := .later }
def TopTraceCardSaid : Prop := Claim7.holds Tryz.pinned (.plain (OpenSpec.ofChange topTraceSpec)) topTraceCard

/-- THE SECOND FORM's CARD OF 'astrolabetop.TopTrace'. -/
def topTraceUptoCard : Claim7 := { stood := { row := topTraceUptoRow, standIns := [], harness := (true, "2b0fcf0991fc2e99c6d07552f611bf3747455663ca248adf9a61d4cf6323b281"), looks := true }, kinds := [], alts := [], laidByText := true, laidKinds := [.data, .data, .data, .data, .data, .handle, .sentinel, .sentinel, .data, .pinned], laidTests := true, laidLooks := .later }
def TopTraceUptoCardSaid : Prop := Claim7.holds Tryz.pinned (.plain (OpenSpec.upto topTraceSpec)) topTraceUptoCard
end Rows
end Go.Proofs.YtnkmmaijigihpaaGreatDoor
