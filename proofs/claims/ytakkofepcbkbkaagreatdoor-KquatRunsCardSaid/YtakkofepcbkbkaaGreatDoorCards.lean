/-
  DERIVED. GIVEN WITH THE SEED: THE CARDS: each row of YtakkofepcbkbkaaGreatDoorRows.lean that lists a variable, with what it lists TIED to the program's text (the seventh form; the later family's looks); each row that meets fmt, with fmt's text TOLD by the authors' own Lean function (tested against real Go, not proved from fmt's source: count such statements apart). THE CARD IS WHAT COUNTS. Prove the row's statement (the work); the ties are given (YtakkofepcbkbkaaGreatDoorTie.lean); close each card by the builder's one call (the guide's Derived/Test/ToyasCard.lean, 'card_holds'). Laid BY PROGRAM, IN A SANDBOX (cutbox-door.mjs). By AI agents, Wed Nov 11 2026. No macro, syntax, notation, axiom, sorry.
-/
import Derived.Test.YtakkofepcbkbkaaGreatDoorRows
import GoSem.ClaimSeven
namespace Go.Proofs.YtakkofepcbkbkaaGreatDoor
namespace Rows

/-- THE TIED CARD OF 'astrolabelaw27.KrootRuns'. -/
def krootRunsCard : Claim7 := { stood := { row := krootRunsRow, standIns := [], harness := (true, "694f6d3380c7853b2dd9e9f70c67133b99f372b12a2b8aa4a64e76a82ea8597b"), looks := true }, kinds := [], alts := [], laidByText := true, laidKinds := [.data, .data, .data, .data, .handle, .data, .pinned], laidTests := true, laidLooks := .later }
def KrootRunsCardSaid : Prop := Claim7.holds Tryz.pinned (.plain (OpenSpec.ofChange krootRunsSpec)) krootRunsCard

/-- THE TIED CARD OF 'astrolabelaw27.KrootQuiet'. -/
def krootQuietCard : Claim7 := { stood := { row := krootQuietRow, standIns := [], harness := (true, "694f6d3380c7853b2dd9e9f70c67133b99f372b12a2b8aa4a64e76a82ea8597b"), looks := true }, kinds := [], alts := [], laidByText := true, laidKinds := [.data, .data, .data, .data, .handle, .data, .pinned], laidTests := true, laidLooks := .later }
def KrootQuietCardSaid : Prop := Claim7.holds Tryz.pinned (.plain (OpenSpec.ofChange krootQuietSpec)) krootQuietCard

/-- THE TIED CARD OF 'astrolabelaw27.KrootTaken'. -/
def krootTakenCard : Claim7 := { stood := { row := krootTakenRow, standIns := [], harness := (true, "694f6d3380c7853b2dd9e9f70c67133b99f372b12a2b8aa4a64e76a82ea8597b"), looks := true }, kinds := [], alts := [], laidByText := true, laidKinds := [.data, .data, .data, .data, .handle, .data, .pinned], laidTests := true, laidLooks := .later }
def KrootTakenCardSaid : Prop := Claim7.holds Tryz.pinned (.plain (OpenSpec.ofChange krootTakenSpec)) krootTakenCard

/-- THE TIED CARD OF 'astrolabelaw29.KquatRuns'. -/
def kquatRunsCard : Claim7 := { stood := { row := kquatRunsRow, standIns := [], harness := (true, "694f6d3380c7853b2dd9e9f70c67133b99f372b12a2b8aa4a64e76a82ea8597b"), looks := true }, kinds := [], alts := [], laidByText := true, laidKinds := [.data, .data, .data, .data, .handle, .data, .pinned], laidTests := true, laidLooks := .later }
def KquatRunsCardSaid : Prop := Claim7.holds Tryz.pinned (.plain (OpenSpec.ofChange kquatRunsSpec)) kquatRunsCard

/-- THE TIED CARD OF 'astrolabelaw29.KquatQuiet'. -/
def kquatQuietCard : Claim7 := { stood := { row := kquatQuietRow, standIns := [], harness := (true, "694f6d3380c7853b2dd9e9f70c67133b99f372b12a2b8aa4a64e76a82ea8597b"), looks := true }, kinds := [], alts := [], laidByText := true, laidKinds := [.data, .data, .data, .data, .handle, .data, .pinned], laidTests := true, laidLooks := .later }
def KquatQuietCardSaid : Prop := Claim7.holds Tryz.pinned (.plain (OpenSpec.ofChange kquatQuietSpec)) kquatQuietCard

/-- THE TIED CARD OF 'astrolabelaw28.KturnRuns'. -/
def kturnRunsCard : Claim7 := { stood := { row := kturnRunsRow, standIns := [], harness := (true, "694f6d3380c7853b2dd9e9f70c67133b99f372b12a2b8aa4a64e76a82ea8597b"), looks := true }, kinds := [], alts := [], laidByText := true, laidKinds := [.data, .data, .data, .data, .handle, .data, .pinned], laidTests := true, laidLooks := .later }
def KturnRunsCardSaid : Prop := Claim7.holds Tryz.pinned (.plain (OpenSpec.ofChange kturnRunsSpec)) kturnRunsCard

/-- THE TIED CARD OF 'astrolabelaw28.KturnQuiet'. -/
def kturnQuietCard : Claim7 := { stood := { row := kturnQuietRow, standIns := [], harness := (true, "694f6d3380c7853b2dd9e9f70c67133b99f372b12a2b8aa4a64e76a82ea8597b"), looks := true }, kinds := [], alts := [], laidByText := true, laidKinds := [.data, .data, .data, .data, .handle, .data, .pinned], laidTests := true, laidLooks := .later }
def KturnQuietCardSaid : Prop := Claim7.holds Tryz.pinned (.plain (OpenSpec.ofChange kturnQuietSpec)) kturnQuietCard

/-- THE TIED CARD OF 'astrolabelaw28.KturnTaken'. -/
def kturnTakenCard : Claim7 := { stood := { row := kturnTakenRow, standIns := [], harness := (true, "694f6d3380c7853b2dd9e9f70c67133b99f372b12a2b8aa4a64e76a82ea8597b"), looks := true }, kinds := [], alts := [], laidByText := true, laidKinds := [.data, .data, .data, .data, .handle, .data, .pinned], laidTests := true, laidLooks := .later }
def KturnTakenCardSaid : Prop := Claim7.holds Tryz.pinned (.plain (OpenSpec.ofChange kturnTakenSpec)) kturnTakenCard

/-- THE SECOND FORM's CARD OF 'astrolabelaw27.KrootRuns'. -/
def krootRunsUptoCard : Claim7 := { stood := { row := krootRunsUptoRow, standIns := [], harness := (true, "694f6d3380c7853b2dd9e9f70c67133b99f372b12a2b8aa4a64e76a82ea8597b"), looks := true }, kinds := [], alts := [], laidByText := true, laidKinds := [.data, .data, .data, .data, .handle, .data, .pinned], laidTests := true, laidLooks := .later }
def KrootRunsUptoCardSaid : Prop := Claim7.holds Tryz.pinned (.plain (OpenSpec.upto krootRunsSpec)) krootRunsUptoCard

/-- THE SECOND FORM's CARD OF 'astrolabelaw27.KrootQuiet'. -/
def krootQuietUptoCard : Claim7 := { stood := { row := krootQuietUptoRow, standIns := [], harness := (true, "694f6d3380c7853b2dd9e9f70c67133b99f372b12a2b8aa4a64e76a82ea8597b"), looks := true }, kinds := [], alts := [], laidByText := true, laidKinds := [.data, .data, .data, .data, .handle, .data, .pinned], laidTests := true, laidLooks := .later }
def KrootQuietUptoCardSaid : Prop := Claim7.holds Tryz.pinned (.plain (OpenSpec.upto krootQuietSpec)) krootQuietUptoCard

/-- THE SECOND FORM's CARD OF 'astrolabelaw27.KrootTaken'. -/
def krootTakenUptoCard : Claim7 := { stood := { row := krootTakenUptoRow, standIns := [], harness := (true, "694f6d3380c7853b2dd9e9f70c67133b99f372b12a2b8aa4a64e76a82ea8597b"), looks := true }, kinds := [], alts := [], laidByText := true, laidKinds := [.data, .data, .data, .data, .handle, .data, .pinned], laidTests := true, laidLooks := .later }
def KrootTakenUptoCardSaid : Prop := Claim7.holds Tryz.pinned (.plain (OpenSpec.upto krootTakenSpec)) krootTakenUptoCard

/-- THE SECOND FORM's CARD OF 'astrolabelaw29.KquatRuns'. -/
def kquatRunsUptoCard : Claim7 := { stood := { row := kquatRunsUptoRow, standIns := [], harness := (true, "694f6d3380c7853b2dd9e9f70c67133b99f372b12a2b8aa4a64e76a82ea8597b"), looks := true }, kinds := [], alts := [], laidByText := true, laidKinds := [.data, .data, .data, .data, .handle, .data, .pinned], laidTests := true, laidLooks := .later }
def KquatRunsUptoCardSaid : Prop := Claim7.holds Tryz.pinned (.plain (OpenSpec.upto kquatRunsSpec)) kquatRunsUptoCard

/-- THE SECOND FORM's CARD OF 'astrolabelaw29.KquatQuiet'. -/
def kquatQuietUptoCard : Claim7 := { stood := { row := kquatQuietUptoRow, standIns := [], harness := (true, "694f6d3380c7853b2dd9e9f70c67133b99f372b12a2b8aa4a64e76a82ea8597b"), looks := true }, kinds := [], alts := [], laidByText := true, laidKinds := [.data, .data, .data, .data, .handle, .data, .pinned], laidTests := true, laidLooks := .later }
def KquatQuietUptoCardSaid : Prop := Claim7.holds Tryz.pinned (.plain (OpenSpec.upto kquatQuietSpec)) kquatQuietUptoCard

/-- THE SECOND FORM's CARD OF 'astrolabelaw28.KturnRuns'. -/
def kturnRunsUptoCard : Claim7 := { stood := { row := kturnRunsUptoRow, standIns := [], harness := (true, "694f6d3380c7853b2dd9e9f70c67133b99f372b12a2b8aa4a64e76a82ea8597b"), looks := true }, kinds := [], alts := [], laidByText := true, laidKinds := [.data, .data, .data, .data, .handle, .data, .pinned], laidTests := true, laidLooks := .later }
def KturnRunsUptoCardSaid : Prop := Claim7.holds Tryz.pinned (.plain (OpenSpec.upto kturnRunsSpec)) kturnRunsUptoCard

/-- THE SECOND FORM's CARD OF 'astrolabelaw28.KturnQuiet'. -/
def kturnQuietUptoCard : Claim7 := { stood := { row := kturnQuietUptoRow, standIns := [], harness := (true, "694f6d3380c7853b2dd9e9f70c67133b99f372b12a2b8aa4a64e76a82ea8597b"), looks := true }, kinds := [], alts := [], laidByText := true, laidKinds := [.data, .data, .data, .data, .handle, .data, .pinned], laidTests := true, laidLooks := .later }
def KturnQuietUptoCardSaid : Prop := Claim7.holds Tryz.pinned (.plain (OpenSpec.upto kturnQuietSpec)) kturnQuietUptoCard

/-- THE SECOND FORM's CARD OF 'astrolabelaw28.KturnTaken'. -/
def kturnTakenUptoCard : Claim7 := { stood := { row := kturnTakenUptoRow, standIns := [], harness := (true, "694f6d3380c7853b2dd9e9f70c67133b99f372b12a2b8aa4a64e76a82ea8597b"), looks := true }, kinds := [], alts := [], laidByText := true, laidKinds := [.data, .data, .data, .data, .handle, .data, .pinned], laidTests := true, laidLooks := .later }
def KturnTakenUptoCardSaid : Prop := Claim7.holds Tryz.pinned (.plain (OpenSpec.upto kturnTakenSpec)) kturnTakenUptoCard
end Rows
end Go.Proofs.YtakkofepcbkbkaaGreatDoor
