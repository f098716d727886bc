/-
  DERIVED. GIVEN WITH THE SEED: THE CARDS: each row of YtdliiamkoncneaaGreatDoorRows.lean that lists a variable, with what it lists TIED to the program's text (the seventh form; the later family's looks); each row that meets fmt, with fmt's text TOLD by the authors' own Lean function (tested against real Go, not proved from fmt's source: count such statements apart). THE CARD IS WHAT COUNTS. Prove the row's statement (the work); the ties are given (YtdliiamkoncneaaGreatDoorTie.lean); close each card by the builder's one call (the guide's Derived/Test/ToyasCard.lean, 'card_holds'). Laid BY PROGRAM, IN A SANDBOX (cutbox-door.mjs). By AI agents, Wed Nov 11 2026. No macro, syntax, notation, axiom, sorry.
-/
import Derived.Test.YtdliiamkoncneaaGreatDoorRows
import GoSem.ClaimSeven
namespace Go.Proofs.YtdliiamkoncneaaGreatDoor
namespace Rows

/-- THE TIED CARD OF 'astrolabelaw43.VotePicks'. -/
def votePicksCard : Claim7 := { stood := { row := votePicksRow, standIns := [], harness := (true, "b5f5c4eabb4292ad3c5c6a1be4305abf671fe394b2d5df8406e4233fe648abb1"), looks := true }, kinds := [], alts := [], laidByText := true, laidKinds := [.data, .sentinel], laidTests := true, laidLooks := .later }
def VotePicksCardSaid : Prop := Claim7.holds Tryz.pinned (.plain (OpenSpec.ofChange votePicksSpec)) votePicksCard

/-- THE SECOND FORM's CARD OF 'astrolabelaw43.VotePicks'. -/
def votePicksUptoCard : Claim7 := { stood := { row := votePicksUptoRow, standIns := [], harness := (true, "b5f5c4eabb4292ad3c5c6a1be4305abf671fe394b2d5df8406e4233fe648abb1"), looks := true }, kinds := [], alts := [], laidByText := true, laidKinds := [.data, .sentinel], laidTests := true, laidLooks := .later }
def VotePicksUptoCardSaid : Prop := Claim7.holds Tryz.pinned (.plain (OpenSpec.upto votePicksSpec)) votePicksUptoCard
end Rows
end Go.Proofs.YtdliiamkoncneaaGreatDoor
