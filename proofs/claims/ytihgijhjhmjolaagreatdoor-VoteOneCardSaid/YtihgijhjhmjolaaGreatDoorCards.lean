/-
  DERIVED. GIVEN WITH THE SEED: THE CARDS: each row of YtihgijhjhmjolaaGreatDoorRows.lean that lists a variable, with what it lists TIED to the program's text (the seventh form; the later family's looks); each row that meets fmt, with fmt's text TOLD by the authors' own Lean function (tested against real Go, not proved from fmt's source: count such statements apart). THE CARD IS WHAT COUNTS. Prove the row's statement (the work); the ties are given (YtihgijhjhmjolaaGreatDoorTie.lean); close each card by the builder's one call (the guide's Derived/Test/ToyasCard.lean, 'card_holds'). Laid BY PROGRAM, IN A SANDBOX (cutbox-door.mjs). By AI agents, Wed Nov 11 2026. No macro, syntax, notation, axiom, sorry.
-/
import Derived.Test.YtihgijhjhmjolaaGreatDoorRows
import GoSem.ClaimSeven
namespace Go.Proofs.YtihgijhjhmjolaaGreatDoor
namespace Rows

/-- THE TIED CARD OF 'astrolabelaw37.ModelTells'. -/
def modelTellsCard : Claim7 := { stood := { row := modelTellsRow, standIns := [], harness := (true, "0d24e8e836895570db5cac5df746f38140055ec3ff2b76f4201d16eaf6c1d246"), looks := true }, kinds := [], alts := [], laidByText := true, laidKinds := [.data, .sentinel], laidTests := true, laidLooks := .later }
def ModelTellsCardSaid : Prop := Claim7.holds Tryz.pinned (.plain (OpenSpec.ofChange modelTellsSpec)) modelTellsCard

/-- THE TIED CARD OF 'astrolabelaw37.ModelCounts'. -/
def modelCountsCard : Claim7 := { stood := { row := modelCountsRow, standIns := [], harness := (true, "0d24e8e836895570db5cac5df746f38140055ec3ff2b76f4201d16eaf6c1d246"), looks := true }, kinds := [], alts := [], laidByText := true, laidKinds := [.data, .sentinel], laidTests := true, laidLooks := .later }
def ModelCountsCardSaid : Prop := Claim7.holds Tryz.pinned (.plain (OpenSpec.ofChange modelCountsSpec)) modelCountsCard

/-- THE TIED CARD OF 'astrolabelaw37.ModelNorm'. -/
def modelNormCard : Claim7 := { stood := { row := modelNormRow, standIns := [], harness := (true, "0d24e8e836895570db5cac5df746f38140055ec3ff2b76f4201d16eaf6c1d246"), looks := true }, kinds := [], alts := [], laidByText := true, laidKinds := [.data, .sentinel], laidTests := true, laidLooks := .later }
def ModelNormCardSaid : Prop := Claim7.holds Tryz.pinned (.plain (OpenSpec.ofChange modelNormSpec)) modelNormCard

/-- THE TIED CARD OF 'astrolabelaw37.ModelTurns'. -/
def modelTurnsCard : Claim7 := { stood := { row := modelTurnsRow, standIns := [], harness := (true, "0d24e8e836895570db5cac5df746f38140055ec3ff2b76f4201d16eaf6c1d246"), looks := true }, kinds := [], alts := [], laidByText := true, laidKinds := [.data, .sentinel], laidTests := true, laidLooks := .later }
def ModelTurnsCardSaid : Prop := Claim7.holds Tryz.pinned (.plain (OpenSpec.ofChange modelTurnsSpec)) modelTurnsCard

/-- THE TIED CARD OF 'astrolabelaw43.VotePlays'. -/
def votePlaysCard : Claim7 := { stood := { row := votePlaysRow, standIns := [], harness := (true, "0d24e8e836895570db5cac5df746f38140055ec3ff2b76f4201d16eaf6c1d246"), looks := true }, kinds := [], alts := [], laidByText := true, laidKinds := [.data, .sentinel], laidTests := true, laidLooks := .later }
def VotePlaysCardSaid : Prop := Claim7.holds Tryz.pinned (.plain (OpenSpec.ofChange votePlaysSpec)) votePlaysCard

/-- THE TIED CARD OF 'astrolabelaw43.VoteOne'. -/
def voteOneCard : Claim7 := { stood := { row := voteOneRow, standIns := [], harness := (true, "0d24e8e836895570db5cac5df746f38140055ec3ff2b76f4201d16eaf6c1d246"), looks := true }, kinds := [], alts := [], laidByText := true, laidKinds := [.data, .sentinel], laidTests := true, laidLooks := .later }
def VoteOneCardSaid : Prop := Claim7.holds Tryz.pinned (.plain (OpenSpec.ofChange voteOneSpec)) voteOneCard

/-- THE SECOND FORM's CARD OF 'astrolabelaw37.ModelTells'. -/
def modelTellsUptoCard : Claim7 := { stood := { row := modelTellsUptoRow, standIns := [], harness := (true, "0d24e8e836895570db5cac5df746f38140055ec3ff2b76f4201d16eaf6c1d246"), looks := true }, kinds := [], alts := [], laidByText := true, laidKinds := [.data, .sentinel], laidTests := true, laidLooks := .later }
def ModelTellsUptoCardSaid : Prop := Claim7.holds Tryz.pinned (.plain (OpenSpec.upto modelTellsSpec)) modelTellsUptoCard

/-- THE SECOND FORM's CARD OF 'astrolabelaw37.ModelCounts'. -/
def modelCountsUptoCard : Claim7 := { stood := { row := modelCountsUptoRow, standIns := [], harness := (true, "0d24e8e836895570db5cac5df746f38140055ec3ff2b76f4201d16eaf6c1d246"), looks := true }, kinds := [], alts := [], laidByText := true, laidKinds := [.data, .sentinel], laidTests := true, laidLooks := .later }
def ModelCountsUptoCardSaid : Prop := Claim7.holds Tryz.pinned (.plain (OpenSpec.upto modelCountsSpec)) modelCountsUptoCard

/-- THE SECOND FORM's CARD OF 'astrolabelaw37.ModelNorm'. -/
def modelNormUptoCard : Claim7 := { stood := { row := modelNormUptoRow, standIns := [], harness := (true, "0d24e8e836895570db5cac5df746f38140055ec3ff2b76f4201d16eaf6c1d246"), looks := true }, kinds := [], alts := [], laidByText := true, laidKinds := [.data, .sentinel], laidTests := true, laidLooks := .later }
def ModelNormUptoCardSaid : Prop := Claim7.holds Tryz.pinned (.plain (OpenSpec.upto modelNormSpec)) modelNormUptoCard

/-- THE SECOND FORM's CARD OF 'astrolabelaw37.ModelTurns'. -/
def modelTurnsUptoCard : Claim7 := { stood := { row := modelTurnsUptoRow, standIns := [], harness := (true, "0d24e8e836895570db5cac5df746f38140055ec3ff2b76f4201d16eaf6c1d246"), looks := true }, kinds := [], alts := [], laidByText := true, laidKinds := [.data, .sentinel], laidTests := true, laidLooks := .later }
def ModelTurnsUptoCardSaid : Prop := Claim7.holds Tryz.pinned (.plain (OpenSpec.upto modelTurnsSpec)) modelTurnsUptoCard

/-- THE SECOND FORM's CARD OF 'astrolabelaw43.VotePlays'. -/
def votePlaysUptoCard : Claim7 := { stood := { row := votePlaysUptoRow, standIns := [], harness := (true, "0d24e8e836895570db5cac5df746f38140055ec3ff2b76f4201d16eaf6c1d246"), looks := true }, kinds := [], alts := [], laidByText := true, laidKinds := [.data, .sentinel], laidTests := true, laidLooks := .later }
def VotePlaysUptoCardSaid : Prop := Claim7.holds Tryz.pinned (.plain (OpenSpec.upto votePlaysSpec)) votePlaysUptoCard

/-- THE SECOND FORM's CARD OF 'astrolabelaw43.VoteOne'. -/
def voteOneUptoCard : Claim7 := { stood := { row := voteOneUptoRow, standIns := [], harness := (true, "0d24e8e836895570db5cac5df746f38140055ec3ff2b76f4201d16eaf6c1d246"), looks := true }, kinds := [], alts := [], laidByText := true, laidKinds := [.data, .sentinel], laidTests := true, laidLooks := .later }
def VoteOneUptoCardSaid : Prop := Claim7.holds Tryz.pinned (.plain (OpenSpec.upto voteOneSpec)) voteOneUptoCard
end Rows
end Go.Proofs.YtihgijhjhmjolaaGreatDoor
