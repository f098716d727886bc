/-
  No cell of these rows narrows 'for every input' (looked for: loops, veiled, ifaces, maps, wideKeys, modest, calm, conditions, laid).
  DERIVED. THE GIVEN ROWS OF THIS SEAT. 10 by the template 'for every input the law returns true; each argument reads behind the call as it read before'; 0 by the template 'total and deterministic' (their statements: YtbmfcedndbgpoaaGreatTotals.lean).
  GIVEN WITH THE SEED: the statements are not yours to turn. If you find one false, say at which input.
  Laid BY PROGRAM, IN A SANDBOX (cutbox-rows.mjs): the forced cells as the released guide's own fill.sh prints them over the translation 6e099914eb7c10d2… (all of the seat's roots in one cut). By AI agents, Wed Nov 11 2026. No macro, syntax, notation, axiom, sorry.
-/
import Derived.Test.YtbmfcedndbgpoaaGreatChecked
import GoSem.Claim
import GoSem.ClaimJoined
import GoSem.ClaimMapViews
import Derived.JoinedTies
import Derived.KernelRfl
namespace Go.Proofs.YtbmfcedndbgpoaaGreat
/- THE CELL 'sum', in the pinned program and in every row, IS THE sha256 OF THE DUMP (.gsa) THAT YtbmfcedndbgpoaaGreatProg.lean LOADS. Nothing in Lean hashes anything: it is a label: what it is worth is what the hold of that sum in a sandbox is worth. -/
noncomputable def Tryz.pinned : Pinned := { name := "ytbmfcedndbgpoaagreat", sum := "6e099914eb7c10d2fc6d91baad0889f1585653b5158b0175992dda75f1848792", checked := Tryz.checked }
namespace Rows
def none {H : Type} : Left H := { results := [], args := [] }

/-- 'astrolabelaw32.GateTells': WHATEVER THE INPUT: true; the input reads as it did. -/
def gateTellsSpec : ChangeSpec := { name := "gateTells", fn := fun _ => fun
  | [d] => { results := [.lit (.bool true)], args := [d] }
  | _ => none }
def gateTellsRow : OpenClaim := { program := "ytbmfcedndbgpoaagreat", sum := "6e099914eb7c10d2fc6d91baad0889f1585653b5158b0175992dda75f1848792", func := "astrolabe/astrolabelaw32.GateTells", spec := "gateTells", unfollowed := true, recurses := true, apart := false }
def GateTellsSaid : Prop := gateTellsRow.holds Tryz.pinned (OpenSpec.ofChange gateTellsSpec)

/-- ITS FALSE NEIGHBOUR: 'it returns false'. Refute it at one input. -/
def gateTellsWrong : ChangeSpec := { name := "gateTells", fn := fun _ => fun
  | [d] => { results := [.lit (.bool false)], args := [d] }
  | _ => none }
def GateTellsWrongFalsely : Prop := gateTellsRow.holds Tryz.pinned (OpenSpec.ofChange gateTellsWrong)

/-- 'astrolabelaw35.EulerTells': WHATEVER THE INPUT: true; the input reads as it did. -/
def eulerTellsSpec : ChangeSpec := { name := "eulerTells", fn := fun _ => fun
  | [d] => { results := [.lit (.bool true)], args := [d] }
  | _ => none }
def eulerTellsRow : OpenClaim := { program := "ytbmfcedndbgpoaagreat", sum := "6e099914eb7c10d2fc6d91baad0889f1585653b5158b0175992dda75f1848792", func := "astrolabe/astrolabelaw35.EulerTells", spec := "eulerTells", unfollowed := true, recurses := true, apart := false }
def EulerTellsSaid : Prop := eulerTellsRow.holds Tryz.pinned (OpenSpec.ofChange eulerTellsSpec)

/-- ITS FALSE NEIGHBOUR: 'it returns false'. Refute it at one input. -/
def eulerTellsWrong : ChangeSpec := { name := "eulerTells", fn := fun _ => fun
  | [d] => { results := [.lit (.bool false)], args := [d] }
  | _ => none }
def EulerTellsWrongFalsely : Prop := eulerTellsRow.holds Tryz.pinned (OpenSpec.ofChange eulerTellsWrong)

/-- 'astrolabelaw35.EulerYaw': WHATEVER THE INPUT: true; the input reads as it did. -/
def eulerYawSpec : ChangeSpec := { name := "eulerYaw", fn := fun _ => fun
  | [d1, d2] => { results := [.lit (.bool true)], args := [d1, d2] }
  | _ => none }
def eulerYawRow : OpenClaim := { program := "ytbmfcedndbgpoaagreat", sum := "6e099914eb7c10d2fc6d91baad0889f1585653b5158b0175992dda75f1848792", func := "astrolabe/astrolabelaw35.EulerYaw", spec := "eulerYaw", unfollowed := true, recurses := true, apart := false }
def EulerYawSaid : Prop := eulerYawRow.holds Tryz.pinned (OpenSpec.ofChange eulerYawSpec)

/-- ITS FALSE NEIGHBOUR: 'it returns false'. Refute it at one input. -/
def eulerYawWrong : ChangeSpec := { name := "eulerYaw", fn := fun _ => fun
  | [d1, d2] => { results := [.lit (.bool false)], args := [d1, d2] }
  | _ => none }
def EulerYawWrongFalsely : Prop := eulerYawRow.holds Tryz.pinned (OpenSpec.ofChange eulerYawWrong)

/-- 'astrolabelaw35.EulerRoll': WHATEVER THE INPUT: true; the input reads as it did. -/
def eulerRollSpec : ChangeSpec := { name := "eulerRoll", fn := fun _ => fun
  | [d1, d2] => { results := [.lit (.bool true)], args := [d1, d2] }
  | _ => none }
def eulerRollRow : OpenClaim := { program := "ytbmfcedndbgpoaagreat", sum := "6e099914eb7c10d2fc6d91baad0889f1585653b5158b0175992dda75f1848792", func := "astrolabe/astrolabelaw35.EulerRoll", spec := "eulerRoll", unfollowed := true, recurses := true, apart := false }
def EulerRollSaid : Prop := eulerRollRow.holds Tryz.pinned (OpenSpec.ofChange eulerRollSpec)

/-- ITS FALSE NEIGHBOUR: 'it returns false'. Refute it at one input. -/
def eulerRollWrong : ChangeSpec := { name := "eulerRoll", fn := fun _ => fun
  | [d1, d2] => { results := [.lit (.bool false)], args := [d1, d2] }
  | _ => none }
def EulerRollWrongFalsely : Prop := eulerRollRow.holds Tryz.pinned (OpenSpec.ofChange eulerRollWrong)

/-- 'astrolabelaw33.GradTells': WHATEVER THE INPUT: true; the input reads as it did. -/
def gradTellsSpec : ChangeSpec := { name := "gradTells", fn := fun _ => fun
  | [d1, d2, d3] => { results := [.lit (.bool true)], args := [d1, d2, d3] }
  | _ => none }
def gradTellsRow : OpenClaim := { program := "ytbmfcedndbgpoaagreat", sum := "6e099914eb7c10d2fc6d91baad0889f1585653b5158b0175992dda75f1848792", func := "astrolabe/astrolabelaw33.GradTells", spec := "gradTells", unfollowed := true, recurses := true, apart := false }
def GradTellsSaid : Prop := gradTellsRow.holds Tryz.pinned (OpenSpec.ofChange gradTellsSpec)

/-- ITS FALSE NEIGHBOUR: 'it returns false'. Refute it at one input. -/
def gradTellsWrong : ChangeSpec := { name := "gradTells", fn := fun _ => fun
  | [d1, d2, d3] => { results := [.lit (.bool false)], args := [d1, d2, d3] }
  | _ => none }
def GradTellsWrongFalsely : Prop := gradTellsRow.holds Tryz.pinned (OpenSpec.ofChange gradTellsWrong)

/-- 'astrolabelaw34.StepTells': WHATEVER THE INPUT: true; the input reads as it did. -/
def stepTellsSpec : ChangeSpec := { name := "stepTells", fn := fun _ => fun
  | [d1, d2] => { results := [.lit (.bool true)], args := [d1, d2] }
  | _ => none }
def stepTellsRow : OpenClaim := { program := "ytbmfcedndbgpoaagreat", sum := "6e099914eb7c10d2fc6d91baad0889f1585653b5158b0175992dda75f1848792", func := "astrolabe/astrolabelaw34.StepTells", spec := "stepTells", unfollowed := true, recurses := true, apart := false }
def StepTellsSaid : Prop := stepTellsRow.holds Tryz.pinned (OpenSpec.ofChange stepTellsSpec)

/-- ITS FALSE NEIGHBOUR: 'it returns false'. Refute it at one input. -/
def stepTellsWrong : ChangeSpec := { name := "stepTells", fn := fun _ => fun
  | [d1, d2] => { results := [.lit (.bool false)], args := [d1, d2] }
  | _ => none }
def StepTellsWrongFalsely : Prop := stepTellsRow.holds Tryz.pinned (OpenSpec.ofChange stepTellsWrong)

/-- 'astrolabelaw34.StepNorm': WHATEVER THE INPUT: true; the input reads as it did. -/
def stepNormSpec : ChangeSpec := { name := "stepNorm", fn := fun _ => fun
  | [d1, d2] => { results := [.lit (.bool true)], args := [d1, d2] }
  | _ => none }
def stepNormRow : OpenClaim := { program := "ytbmfcedndbgpoaagreat", sum := "6e099914eb7c10d2fc6d91baad0889f1585653b5158b0175992dda75f1848792", func := "astrolabe/astrolabelaw34.StepNorm", spec := "stepNorm", unfollowed := true, recurses := true, apart := false }
def StepNormSaid : Prop := stepNormRow.holds Tryz.pinned (OpenSpec.ofChange stepNormSpec)

/-- ITS FALSE NEIGHBOUR: 'it returns false'. Refute it at one input. -/
def stepNormWrong : ChangeSpec := { name := "stepNorm", fn := fun _ => fun
  | [d1, d2] => { results := [.lit (.bool false)], args := [d1, d2] }
  | _ => none }
def StepNormWrongFalsely : Prop := stepNormRow.holds Tryz.pinned (OpenSpec.ofChange stepNormWrong)

/-- 'astrolabelaw34.StepGates': WHATEVER THE INPUT: true; the input reads as it did. -/
def stepGatesSpec : ChangeSpec := { name := "stepGates", fn := fun _ => fun
  | [d1, d2, d3, d4] => { results := [.lit (.bool true)], args := [d1, d2, d3, d4] }
  | _ => none }
def stepGatesRow : OpenClaim := { program := "ytbmfcedndbgpoaagreat", sum := "6e099914eb7c10d2fc6d91baad0889f1585653b5158b0175992dda75f1848792", func := "astrolabe/astrolabelaw34.StepGates", spec := "stepGates", unfollowed := true, recurses := true, apart := false }
def StepGatesSaid : Prop := stepGatesRow.holds Tryz.pinned (OpenSpec.ofChange stepGatesSpec)

/-- ITS FALSE NEIGHBOUR: 'it returns false'. Refute it at one input. -/
def stepGatesWrong : ChangeSpec := { name := "stepGates", fn := fun _ => fun
  | [d1, d2, d3, d4] => { results := [.lit (.bool false)], args := [d1, d2, d3, d4] }
  | _ => none }
def StepGatesWrongFalsely : Prop := stepGatesRow.holds Tryz.pinned (OpenSpec.ofChange stepGatesWrong)

/-- 'astrolabelaw34.StepFar': WHATEVER THE INPUT: true; the input reads as it did. -/
def stepFarSpec : ChangeSpec := { name := "stepFar", fn := fun _ => fun
  | [d1, d2] => { results := [.lit (.bool true)], args := [d1, d2] }
  | _ => none }
def stepFarRow : OpenClaim := { program := "ytbmfcedndbgpoaagreat", sum := "6e099914eb7c10d2fc6d91baad0889f1585653b5158b0175992dda75f1848792", func := "astrolabe/astrolabelaw34.StepFar", spec := "stepFar", unfollowed := true, recurses := true, apart := false }
def StepFarSaid : Prop := stepFarRow.holds Tryz.pinned (OpenSpec.ofChange stepFarSpec)

/-- ITS FALSE NEIGHBOUR: 'it returns false'. Refute it at one input. -/
def stepFarWrong : ChangeSpec := { name := "stepFar", fn := fun _ => fun
  | [d1, d2] => { results := [.lit (.bool false)], args := [d1, d2] }
  | _ => none }
def StepFarWrongFalsely : Prop := stepFarRow.holds Tryz.pinned (OpenSpec.ofChange stepFarWrong)

/-- 'astrolabelaw34.StepQuiet': WHATEVER THE INPUT: true; the input reads as it did. -/
def stepQuietSpec : ChangeSpec := { name := "stepQuiet", fn := fun _ => fun
  | [d1, d2] => { results := [.lit (.bool true)], args := [d1, d2] }
  | _ => none }
def stepQuietRow : OpenClaim := { program := "ytbmfcedndbgpoaagreat", sum := "6e099914eb7c10d2fc6d91baad0889f1585653b5158b0175992dda75f1848792", func := "astrolabe/astrolabelaw34.StepQuiet", spec := "stepQuiet", unfollowed := true, recurses := true, apart := false }
def StepQuietSaid : Prop := stepQuietRow.holds Tryz.pinned (OpenSpec.ofChange stepQuietSpec)

/-- ITS FALSE NEIGHBOUR: 'it returns false'. Refute it at one input. -/
def stepQuietWrong : ChangeSpec := { name := "stepQuiet", fn := fun _ => fun
  | [d1, d2] => { results := [.lit (.bool false)], args := [d1, d2] }
  | _ => none }
def StepQuietWrongFalsely : Prop := stepQuietRow.holds Tryz.pinned (OpenSpec.ofChange stepQuietWrong)

/- THE SECOND FORM. 'bulk': how many values and letters a reading holds, each counted each time it is reached (what is shared counts as often as it is met; a slice's spare places count too). A statement '..UptoSaid' is the law's where the arguments, and the package variables that the reading takes, are together of bulk at most 1048576: NARROWER than '..Said'. Prove '..Said' where nothing that the law and all that it calls make is longer than what came in: it says more and counts as full. Else prove '..UptoSaid'. A law counts once. -/
mutual
def uptoBulk {H : Type} : DataW H → Nat
  | .lit (.string bytes) => bytes.length + 1
  | .lit _ => 1
  | .nil => 1
  | .ptr d => uptoBulk d + 1
  | .slice elems spare => uptoBulkAll elems + uptoBulkAll spare + 1
  | .agg parts => uptoBulkAll parts + 1
  | .iface _ d => uptoBulk d + 1
  | .map entries => uptoBulkEntries entries + 1
  | .held _ => 1
def uptoBulkAll {H : Type} : List (DataW H) → Nat
  | [] => 0
  | d :: r => uptoBulk d + uptoBulkAll r
def uptoBulkEntries {H : Type} : List (Lit × DataW H) → Nat
  | [] => 0
  | x :: r => uptoBulkEntry x + uptoBulkEntries r
def uptoBulkEntry {H : Type} : Lit × DataW H → Nat
  | (.string bytes, d) => bytes.length + uptoBulk d + 1
  | (_, d) => uptoBulk d + 1
 end
def uptoSmall : (H : Type) → List (DataW H) → Bool := fun _ ds => decide (uptoBulkAll ds ≤ 1048576)
def OpenSpec.upto (s : _root_.Go.ChangeSpec) : _root_.Go.OpenSpec := { _root_.Go.OpenSpec.ofChange s with cond := some uptoSmall }

/-- 'astrolabelaw32.GateTells', WHERE WHAT IT READS IS OF BULK AT MOST 1048576: true; the input reads as it did. -/
def gateTellsUptoRow : OpenClaim := { program := "ytbmfcedndbgpoaagreat", sum := "6e099914eb7c10d2fc6d91baad0889f1585653b5158b0175992dda75f1848792", func := "astrolabe/astrolabelaw32.GateTells", spec := "gateTells", unfollowed := true, recurses := true, apart := false, narrowed := true }
def GateTellsUptoSaid : Prop := gateTellsUptoRow.holds Tryz.pinned (OpenSpec.upto gateTellsSpec)

/-- 'astrolabelaw35.EulerTells', WHERE WHAT IT READS IS OF BULK AT MOST 1048576: true; the input reads as it did. -/
def eulerTellsUptoRow : OpenClaim := { program := "ytbmfcedndbgpoaagreat", sum := "6e099914eb7c10d2fc6d91baad0889f1585653b5158b0175992dda75f1848792", func := "astrolabe/astrolabelaw35.EulerTells", spec := "eulerTells", unfollowed := true, recurses := true, apart := false, narrowed := true }
def EulerTellsUptoSaid : Prop := eulerTellsUptoRow.holds Tryz.pinned (OpenSpec.upto eulerTellsSpec)

/-- 'astrolabelaw35.EulerYaw', WHERE WHAT IT READS IS OF BULK AT MOST 1048576: true; the input reads as it did. -/
def eulerYawUptoRow : OpenClaim := { program := "ytbmfcedndbgpoaagreat", sum := "6e099914eb7c10d2fc6d91baad0889f1585653b5158b0175992dda75f1848792", func := "astrolabe/astrolabelaw35.EulerYaw", spec := "eulerYaw", unfollowed := true, recurses := true, apart := false, narrowed := true }
def EulerYawUptoSaid : Prop := eulerYawUptoRow.holds Tryz.pinned (OpenSpec.upto eulerYawSpec)

/-- 'astrolabelaw35.EulerRoll', WHERE WHAT IT READS IS OF BULK AT MOST 1048576: true; the input reads as it did. -/
def eulerRollUptoRow : OpenClaim := { program := "ytbmfcedndbgpoaagreat", sum := "6e099914eb7c10d2fc6d91baad0889f1585653b5158b0175992dda75f1848792", func := "astrolabe/astrolabelaw35.EulerRoll", spec := "eulerRoll", unfollowed := true, recurses := true, apart := false, narrowed := true }
def EulerRollUptoSaid : Prop := eulerRollUptoRow.holds Tryz.pinned (OpenSpec.upto eulerRollSpec)

/-- 'astrolabelaw33.GradTells', WHERE WHAT IT READS IS OF BULK AT MOST 1048576: true; the input reads as it did. -/
def gradTellsUptoRow : OpenClaim := { program := "ytbmfcedndbgpoaagreat", sum := "6e099914eb7c10d2fc6d91baad0889f1585653b5158b0175992dda75f1848792", func := "astrolabe/astrolabelaw33.GradTells", spec := "gradTells", unfollowed := true, recurses := true, apart := false, narrowed := true }
def GradTellsUptoSaid : Prop := gradTellsUptoRow.holds Tryz.pinned (OpenSpec.upto gradTellsSpec)

/-- 'astrolabelaw34.StepTells', WHERE WHAT IT READS IS OF BULK AT MOST 1048576: true; the input reads as it did. -/
def stepTellsUptoRow : OpenClaim := { program := "ytbmfcedndbgpoaagreat", sum := "6e099914eb7c10d2fc6d91baad0889f1585653b5158b0175992dda75f1848792", func := "astrolabe/astrolabelaw34.StepTells", spec := "stepTells", unfollowed := true, recurses := true, apart := false, narrowed := true }
def StepTellsUptoSaid : Prop := stepTellsUptoRow.holds Tryz.pinned (OpenSpec.upto stepTellsSpec)

/-- 'astrolabelaw34.StepNorm', WHERE WHAT IT READS IS OF BULK AT MOST 1048576: true; the input reads as it did. -/
def stepNormUptoRow : OpenClaim := { program := "ytbmfcedndbgpoaagreat", sum := "6e099914eb7c10d2fc6d91baad0889f1585653b5158b0175992dda75f1848792", func := "astrolabe/astrolabelaw34.StepNorm", spec := "stepNorm", unfollowed := true, recurses := true, apart := false, narrowed := true }
def StepNormUptoSaid : Prop := stepNormUptoRow.holds Tryz.pinned (OpenSpec.upto stepNormSpec)

/-- 'astrolabelaw34.StepGates', WHERE WHAT IT READS IS OF BULK AT MOST 1048576: true; the input reads as it did. -/
def stepGatesUptoRow : OpenClaim := { program := "ytbmfcedndbgpoaagreat", sum := "6e099914eb7c10d2fc6d91baad0889f1585653b5158b0175992dda75f1848792", func := "astrolabe/astrolabelaw34.StepGates", spec := "stepGates", unfollowed := true, recurses := true, apart := false, narrowed := true }
def StepGatesUptoSaid : Prop := stepGatesUptoRow.holds Tryz.pinned (OpenSpec.upto stepGatesSpec)

/-- 'astrolabelaw34.StepFar', WHERE WHAT IT READS IS OF BULK AT MOST 1048576: true; the input reads as it did. -/
def stepFarUptoRow : OpenClaim := { program := "ytbmfcedndbgpoaagreat", sum := "6e099914eb7c10d2fc6d91baad0889f1585653b5158b0175992dda75f1848792", func := "astrolabe/astrolabelaw34.StepFar", spec := "stepFar", unfollowed := true, recurses := true, apart := false, narrowed := true }
def StepFarUptoSaid : Prop := stepFarUptoRow.holds Tryz.pinned (OpenSpec.upto stepFarSpec)

/-- 'astrolabelaw34.StepQuiet', WHERE WHAT IT READS IS OF BULK AT MOST 1048576: true; the input reads as it did. -/
def stepQuietUptoRow : OpenClaim := { program := "ytbmfcedndbgpoaagreat", sum := "6e099914eb7c10d2fc6d91baad0889f1585653b5158b0175992dda75f1848792", func := "astrolabe/astrolabelaw34.StepQuiet", spec := "stepQuiet", unfollowed := true, recurses := true, apart := false, narrowed := true }
def StepQuietUptoSaid : Prop := stepQuietUptoRow.holds Tryz.pinned (OpenSpec.upto stepQuietSpec)

end Rows
end Go.Proofs.YtbmfcedndbgpoaaGreat
