/-
  NARROWER THAN 'FOR EVERY INPUT', by the rows' own cells (each row's printed sentence says how): ModelTells: laid · ModelCounts: laid · ModelNorm: laid · ModelTurns: laid · VotePlays: laid · VoteOne: laid.
  DERIVED. THE GIVEN ROWS OF THIS SEAT. 6 by the template 'for every input the law returns true; each argument reads behind the call as it read before'; 0 by the template 'total and deterministic' (their statements: YtihgijhjhmjolaaGreatDoorTotals.lean).
  GIVEN WITH THE SEED: the statements are not yours to turn. If you find one false, say at which input.
  Laid BY PROGRAM, IN A SANDBOX (cutbox-rows.mjs): the forced cells as the released guide's own fill.sh prints them over the translation de6e6a6ead15ec8b… (all of the seat's roots in one cut). By AI agents, Wed Nov 11 2026. No macro, syntax, notation, axiom, sorry.
-/
import Derived.Test.YtihgijhjhmjolaaGreatDoorChecked
import GoSem.Claim
import GoSem.ClaimJoined
import GoSem.ClaimMapViews
import Derived.JoinedTies
import Derived.KernelRfl
namespace Go.Proofs.YtihgijhjhmjolaaGreatDoor
/- THE CELL 'sum', in the pinned program and in every row, IS THE sha256 OF THE DUMP (.gsa) THAT YtihgijhjhmjolaaGreatDoorProg.lean LOADS. Nothing in Lean hashes anything: it is a label: what it is worth is what the hold of that sum in a sandbox is worth. -/
noncomputable def Tryz.pinned : Pinned := { name := "ytihgijhjhmjolaagreatdoor", sum := "de6e6a6ead15ec8b01b29651caf56e6f9b4551e2641226d5a64a265a02021e82", checked := Tryz.checked }
namespace Rows
def none {H : Type} : Left H := { results := [], args := [] }

/- WHAT THE LISTED PACKAGE-LEVEL VARIABLES READ AS WHEN THE CALL BEGINS. Each datum BY PROGRAM (the guide's laid-datum.mjs) off the statement by which the dump's own 'gosem.cut.vars' lays the variable. In a bare row this is a premise. The card (YtihgijhjhmjolaaGreatDoorCards.lean) ties it to the program's text. -/
def laid_astrolabe_crc_four {H : Type} : DataW H := .agg [.lit (.int .i32 0), .lit (.int .i32 4129), .lit (.int .i32 8258), .lit (.int .i32 12387), .lit (.int .i32 16516), .lit (.int .i32 20645), .lit (.int .i32 24774), .lit (.int .i32 28903), .lit (.int .i32 33032), .lit (.int .i32 37161), .lit (.int .i32 41290), .lit (.int .i32 45419), .lit (.int .i32 49548), .lit (.int .i32 53677), .lit (.int .i32 57806), .lit (.int .i32 61935)]
def laid_astrolabe_frame_errRange {H : Type} : DataW H := .iface "*errors.errorString" (.ptr (.agg [.lit (.string [97, 32, 110, 117, 109, 98, 101, 114, 32, 111, 117, 116, 32, 111, 102, 32, 105, 116, 115, 32, 98, 111, 117, 110, 100, 115])]))

/-- 'astrolabelaw37.ModelTells': WHATEVER THE INPUT: true; the input reads as it did. -/
def modelTellsSpec : ChangeSpec := { name := "modelTells", fn := fun _ => fun
  | [d1, d2, d3] => { results := [.lit (.bool true)], args := [d1, d2, d3] }
  | _ => none }
def modelTellsRow : OpenClaim := { program := "ytihgijhjhmjolaagreatdoor", sum := "de6e6a6ead15ec8b01b29651caf56e6f9b4551e2641226d5a64a265a02021e82", func := "astrolabe/astrolabelaw37.ModelTells", spec := "modelTells", inPlace := ["internal/reflectlite.TypeOf"], unfollowed := true, recurses := true, named := ["astrolabe/crc.four", "astrolabe/frame.errRange"], apart := false, laid := [("astrolabe/crc.four", laid_astrolabe_crc_four), ("astrolabe/frame.errRange", laid_astrolabe_frame_errRange)] }
def ModelTellsSaid : Prop := modelTellsRow.holds Tryz.pinned (OpenSpec.ofChange modelTellsSpec)

/-- ITS FALSE NEIGHBOUR: 'it returns false'. Refute it at one input. -/
def modelTellsWrong : ChangeSpec := { name := "modelTells", fn := fun _ => fun
  | [d1, d2, d3] => { results := [.lit (.bool false)], args := [d1, d2, d3] }
  | _ => none }
def ModelTellsWrongFalsely : Prop := modelTellsRow.holds Tryz.pinned (OpenSpec.ofChange modelTellsWrong)

/-- 'astrolabelaw37.ModelCounts': WHATEVER THE INPUT: true; the input reads as it did. -/
def modelCountsSpec : ChangeSpec := { name := "modelCounts", fn := fun _ => fun
  | [d] => { results := [.lit (.bool true)], args := [d] }
  | _ => none }
def modelCountsRow : OpenClaim := { program := "ytihgijhjhmjolaagreatdoor", sum := "de6e6a6ead15ec8b01b29651caf56e6f9b4551e2641226d5a64a265a02021e82", func := "astrolabe/astrolabelaw37.ModelCounts", spec := "modelCounts", inPlace := ["internal/reflectlite.TypeOf"], unfollowed := true, recurses := true, named := ["astrolabe/crc.four", "astrolabe/frame.errRange"], apart := false, laid := [("astrolabe/crc.four", laid_astrolabe_crc_four), ("astrolabe/frame.errRange", laid_astrolabe_frame_errRange)] }
def ModelCountsSaid : Prop := modelCountsRow.holds Tryz.pinned (OpenSpec.ofChange modelCountsSpec)

/-- ITS FALSE NEIGHBOUR: 'it returns false'. Refute it at one input. -/
def modelCountsWrong : ChangeSpec := { name := "modelCounts", fn := fun _ => fun
  | [d] => { results := [.lit (.bool false)], args := [d] }
  | _ => none }
def ModelCountsWrongFalsely : Prop := modelCountsRow.holds Tryz.pinned (OpenSpec.ofChange modelCountsWrong)

/-- 'astrolabelaw37.ModelNorm': WHATEVER THE INPUT: true; the input reads as it did. -/
def modelNormSpec : ChangeSpec := { name := "modelNorm", fn := fun _ => fun
  | [d] => { results := [.lit (.bool true)], args := [d] }
  | _ => none }
def modelNormRow : OpenClaim := { program := "ytihgijhjhmjolaagreatdoor", sum := "de6e6a6ead15ec8b01b29651caf56e6f9b4551e2641226d5a64a265a02021e82", func := "astrolabe/astrolabelaw37.ModelNorm", spec := "modelNorm", inPlace := ["internal/reflectlite.TypeOf"], unfollowed := true, recurses := true, named := ["astrolabe/crc.four", "astrolabe/frame.errRange"], apart := false, laid := [("astrolabe/crc.four", laid_astrolabe_crc_four), ("astrolabe/frame.errRange", laid_astrolabe_frame_errRange)] }
def ModelNormSaid : Prop := modelNormRow.holds Tryz.pinned (OpenSpec.ofChange modelNormSpec)

/-- ITS FALSE NEIGHBOUR: 'it returns false'. Refute it at one input. -/
def modelNormWrong : ChangeSpec := { name := "modelNorm", fn := fun _ => fun
  | [d] => { results := [.lit (.bool false)], args := [d] }
  | _ => none }
def ModelNormWrongFalsely : Prop := modelNormRow.holds Tryz.pinned (OpenSpec.ofChange modelNormWrong)

/-- 'astrolabelaw37.ModelTurns': WHATEVER THE INPUT: true; the input reads as it did. -/
def modelTurnsSpec : ChangeSpec := { name := "modelTurns", fn := fun _ => fun
  | [d1, d2] => { results := [.lit (.bool true)], args := [d1, d2] }
  | _ => none }
def modelTurnsRow : OpenClaim := { program := "ytihgijhjhmjolaagreatdoor", sum := "de6e6a6ead15ec8b01b29651caf56e6f9b4551e2641226d5a64a265a02021e82", func := "astrolabe/astrolabelaw37.ModelTurns", spec := "modelTurns", inPlace := ["internal/reflectlite.TypeOf"], unfollowed := true, recurses := true, named := ["astrolabe/crc.four", "astrolabe/frame.errRange"], apart := false, laid := [("astrolabe/crc.four", laid_astrolabe_crc_four), ("astrolabe/frame.errRange", laid_astrolabe_frame_errRange)] }
def ModelTurnsSaid : Prop := modelTurnsRow.holds Tryz.pinned (OpenSpec.ofChange modelTurnsSpec)

/-- ITS FALSE NEIGHBOUR: 'it returns false'. Refute it at one input. -/
def modelTurnsWrong : ChangeSpec := { name := "modelTurns", fn := fun _ => fun
  | [d1, d2] => { results := [.lit (.bool false)], args := [d1, d2] }
  | _ => none }
def ModelTurnsWrongFalsely : Prop := modelTurnsRow.holds Tryz.pinned (OpenSpec.ofChange modelTurnsWrong)

/-- 'astrolabelaw43.VotePlays': WHATEVER THE INPUT: true; the input reads as it did. -/
def votePlaysSpec : ChangeSpec := { name := "votePlays", fn := fun _ => fun
  | [d] => { results := [.lit (.bool true)], args := [d] }
  | _ => none }
def votePlaysRow : OpenClaim := { program := "ytihgijhjhmjolaagreatdoor", sum := "de6e6a6ead15ec8b01b29651caf56e6f9b4551e2641226d5a64a265a02021e82", func := "astrolabe/astrolabelaw43.VotePlays", spec := "votePlays", inPlace := ["internal/reflectlite.TypeOf"], unfollowed := true, recurses := true, named := ["astrolabe/crc.four", "astrolabe/frame.errRange"], apart := false, laid := [("astrolabe/crc.four", laid_astrolabe_crc_four), ("astrolabe/frame.errRange", laid_astrolabe_frame_errRange)] }
def VotePlaysSaid : Prop := votePlaysRow.holds Tryz.pinned (OpenSpec.ofChange votePlaysSpec)

/-- ITS FALSE NEIGHBOUR: 'it returns false'. Refute it at one input. -/
def votePlaysWrong : ChangeSpec := { name := "votePlays", fn := fun _ => fun
  | [d] => { results := [.lit (.bool false)], args := [d] }
  | _ => none }
def VotePlaysWrongFalsely : Prop := votePlaysRow.holds Tryz.pinned (OpenSpec.ofChange votePlaysWrong)

/-- 'astrolabelaw43.VoteOne': WHATEVER THE INPUT: true; the input reads as it did. -/
def voteOneSpec : ChangeSpec := { name := "voteOne", fn := fun _ => fun
  | [d] => { results := [.lit (.bool true)], args := [d] }
  | _ => none }
def voteOneRow : OpenClaim := { program := "ytihgijhjhmjolaagreatdoor", sum := "de6e6a6ead15ec8b01b29651caf56e6f9b4551e2641226d5a64a265a02021e82", func := "astrolabe/astrolabelaw43.VoteOne", spec := "voteOne", inPlace := ["internal/reflectlite.TypeOf"], unfollowed := true, recurses := true, named := ["astrolabe/crc.four", "astrolabe/frame.errRange"], apart := false, laid := [("astrolabe/crc.four", laid_astrolabe_crc_four), ("astrolabe/frame.errRange", laid_astrolabe_frame_errRange)] }
def VoteOneSaid : Prop := voteOneRow.holds Tryz.pinned (OpenSpec.ofChange voteOneSpec)

/-- ITS FALSE NEIGHBOUR: 'it returns false'. Refute it at one input. -/
def voteOneWrong : ChangeSpec := { name := "voteOne", fn := fun _ => fun
  | [d] => { results := [.lit (.bool false)], args := [d] }
  | _ => none }
def VoteOneWrongFalsely : Prop := voteOneRow.holds Tryz.pinned (OpenSpec.ofChange voteOneWrong)

/- THE SECOND FORM. 'bulk': how many values and letters a reading holds, each counted each time it is reached (what is shared counts as often as it is met; a slice's spare places count too). A statement '..UptoSaid' is the law's where the arguments, and the package variables that the reading takes, are together of bulk at most 1048576: NARROWER than '..Said'. Prove '..Said' where nothing that the law and all that it calls make is longer than what came in: it says more and counts as full. Else prove '..UptoSaid'. A law counts once. -/
mutual
def uptoBulk {H : Type} : DataW H → Nat
  | .lit (.string bytes) => bytes.length + 1
  | .lit _ => 1
  | .nil => 1
  | .ptr d => uptoBulk d + 1
  | .slice elems spare => uptoBulkAll elems + uptoBulkAll spare + 1
  | .agg parts => uptoBulkAll parts + 1
  | .iface _ d => uptoBulk d + 1
  | .map entries => uptoBulkEntries entries + 1
  | .held _ => 1
def uptoBulkAll {H : Type} : List (DataW H) → Nat
  | [] => 0
  | d :: r => uptoBulk d + uptoBulkAll r
def uptoBulkEntries {H : Type} : List (Lit × DataW H) → Nat
  | [] => 0
  | x :: r => uptoBulkEntry x + uptoBulkEntries r
def uptoBulkEntry {H : Type} : Lit × DataW H → Nat
  | (.string bytes, d) => bytes.length + uptoBulk d + 1
  | (_, d) => uptoBulk d + 1
 end
def uptoSmall : (H : Type) → List (DataW H) → Bool := fun _ ds => decide (uptoBulkAll ds ≤ 1048576)
def OpenSpec.upto (s : _root_.Go.ChangeSpec) : _root_.Go.OpenSpec := { _root_.Go.OpenSpec.ofChange s with cond := some uptoSmall }

/-- 'astrolabelaw37.ModelTells', WHERE WHAT IT READS IS OF BULK AT MOST 1048576: true; the input reads as it did. -/
def modelTellsUptoRow : OpenClaim := { program := "ytihgijhjhmjolaagreatdoor", sum := "de6e6a6ead15ec8b01b29651caf56e6f9b4551e2641226d5a64a265a02021e82", func := "astrolabe/astrolabelaw37.ModelTells", spec := "modelTells", inPlace := ["internal/reflectlite.TypeOf"], unfollowed := true, recurses := true, named := ["astrolabe/crc.four", "astrolabe/frame.errRange"], apart := false, laid := [("astrolabe/crc.four", laid_astrolabe_crc_four), ("astrolabe/frame.errRange", laid_astrolabe_frame_errRange)], narrowed := true }
def ModelTellsUptoSaid : Prop := modelTellsUptoRow.holds Tryz.pinned (OpenSpec.upto modelTellsSpec)

/-- 'astrolabelaw37.ModelCounts', WHERE WHAT IT READS IS OF BULK AT MOST 1048576: true; the input reads as it did. -/
def modelCountsUptoRow : OpenClaim := { program := "ytihgijhjhmjolaagreatdoor", sum := "de6e6a6ead15ec8b01b29651caf56e6f9b4551e2641226d5a64a265a02021e82", func := "astrolabe/astrolabelaw37.ModelCounts", spec := "modelCounts", inPlace := ["internal/reflectlite.TypeOf"], unfollowed := true, recurses := true, named := ["astrolabe/crc.four", "astrolabe/frame.errRange"], apart := false, laid := [("astrolabe/crc.four", laid_astrolabe_crc_four), ("astrolabe/frame.errRange", laid_astrolabe_frame_errRange)], narrowed := true }
def ModelCountsUptoSaid : Prop := modelCountsUptoRow.holds Tryz.pinned (OpenSpec.upto modelCountsSpec)

/-- 'astrolabelaw37.ModelNorm', WHERE WHAT IT READS IS OF BULK AT MOST 1048576: true; the input reads as it did. -/
def modelNormUptoRow : OpenClaim := { program := "ytihgijhjhmjolaagreatdoor", sum := "de6e6a6ead15ec8b01b29651caf56e6f9b4551e2641226d5a64a265a02021e82", func := "astrolabe/astrolabelaw37.ModelNorm", spec := "modelNorm", inPlace := ["internal/reflectlite.TypeOf"], unfollowed := true, recurses := true, named := ["astrolabe/crc.four", "astrolabe/frame.errRange"], apart := false, laid := [("astrolabe/crc.four", laid_astrolabe_crc_four), ("astrolabe/frame.errRange", laid_astrolabe_frame_errRange)], narrowed := true }
def ModelNormUptoSaid : Prop := modelNormUptoRow.holds Tryz.pinned (OpenSpec.upto modelNormSpec)

/-- 'astrolabelaw37.ModelTurns', WHERE WHAT IT READS IS OF BULK AT MOST 1048576: true; the input reads as it did. -/
def modelTurnsUptoRow : OpenClaim := { program := "ytihgijhjhmjolaagreatdoor", sum := "de6e6a6ead15ec8b01b29651caf56e6f9b4551e2641226d5a64a265a02021e82", func := "astrolabe/astrolabelaw37.ModelTurns", spec := "modelTurns", inPlace := ["internal/reflectlite.TypeOf"], unfollowed := true, recurses := true, named := ["astrolabe/crc.four", "astrolabe/frame.errRange"], apart := false, laid := [("astrolabe/crc.four", laid_astrolabe_crc_four), ("astrolabe/frame.errRange", laid_astrolabe_frame_errRange)], narrowed := true }
def ModelTurnsUptoSaid : Prop := modelTurnsUptoRow.holds Tryz.pinned (OpenSpec.upto modelTurnsSpec)

/-- 'astrolabelaw43.VotePlays', WHERE WHAT IT READS IS OF BULK AT MOST 1048576: true; the input reads as it did. -/
def votePlaysUptoRow : OpenClaim := { program := "ytihgijhjhmjolaagreatdoor", sum := "de6e6a6ead15ec8b01b29651caf56e6f9b4551e2641226d5a64a265a02021e82", func := "astrolabe/astrolabelaw43.VotePlays", spec := "votePlays", inPlace := ["internal/reflectlite.TypeOf"], unfollowed := true, recurses := true, named := ["astrolabe/crc.four", "astrolabe/frame.errRange"], apart := false, laid := [("astrolabe/crc.four", laid_astrolabe_crc_four), ("astrolabe/frame.errRange", laid_astrolabe_frame_errRange)], narrowed := true }
def VotePlaysUptoSaid : Prop := votePlaysUptoRow.holds Tryz.pinned (OpenSpec.upto votePlaysSpec)

/-- 'astrolabelaw43.VoteOne', WHERE WHAT IT READS IS OF BULK AT MOST 1048576: true; the input reads as it did. -/
def voteOneUptoRow : OpenClaim := { program := "ytihgijhjhmjolaagreatdoor", sum := "de6e6a6ead15ec8b01b29651caf56e6f9b4551e2641226d5a64a265a02021e82", func := "astrolabe/astrolabelaw43.VoteOne", spec := "voteOne", inPlace := ["internal/reflectlite.TypeOf"], unfollowed := true, recurses := true, named := ["astrolabe/crc.four", "astrolabe/frame.errRange"], apart := false, laid := [("astrolabe/crc.four", laid_astrolabe_crc_four), ("astrolabe/frame.errRange", laid_astrolabe_frame_errRange)], narrowed := true }
def VoteOneUptoSaid : Prop := voteOneUptoRow.holds Tryz.pinned (OpenSpec.upto voteOneSpec)

end Rows
end Go.Proofs.YtihgijhjhmjolaaGreatDoor
