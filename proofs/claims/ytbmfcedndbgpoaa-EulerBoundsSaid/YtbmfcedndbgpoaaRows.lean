/-
  No cell of these rows narrows 'for every input' (looked for: loops, veiled, ifaces, maps, wideKeys, modest, calm, conditions, laid).
  DERIVED. THE GIVEN ROWS OF THIS SEAT. 7 by the template 'for every input the law returns true; each argument reads behind the call as it read before'; 0 by the template 'total and deterministic' (their statements: YtbmfcedndbgpoaaTotals.lean).
  GIVEN WITH THE SEED: the statements are not yours to turn. If you find one false, say at which input.
  Laid BY PROGRAM, IN A SANDBOX (cutbox-rows.mjs): the forced cells as the released guide's own fill.sh prints them over the translation aeccdd85cce6aad8… (all of the seat's roots in one cut). By AI agents, Wed Nov 11 2026. No macro, syntax, notation, axiom, sorry.
-/
import Derived.Test.YtbmfcedndbgpoaaChecked
import GoSem.Claim
import GoSem.ClaimJoined
import GoSem.ClaimMapViews
import Derived.JoinedTies
import Derived.KernelRfl
namespace Go.Proofs.Ytbmfcedndbgpoaa
/- THE CELL 'sum', in the pinned program and in every row, IS THE sha256 OF THE DUMP (.gsa) THAT YtbmfcedndbgpoaaProg.lean LOADS. Nothing in Lean hashes anything: it is a label: what it is worth is what the hold of that sum in a sandbox is worth. -/
noncomputable def Try.pinned : Pinned := { name := "ytbmfcedndbgpoaa", sum := "aeccdd85cce6aad83305fbdefdfd0d85599fb57024d727232a856aceac182b75", checked := Try.checked }
namespace Rows
def none {H : Type} : Left H := { results := [], args := [] }

/-- 'astrolabelaw32.GateExact': WHATEVER THE INPUT: true; the input reads as it did. -/
def gateExactSpec : ChangeSpec := { name := "gateExact", fn := fun _ => fun
  | [d] => { results := [.lit (.bool true)], args := [d] }
  | _ => none }
def gateExactRow : OpenClaim := { program := "ytbmfcedndbgpoaa", sum := "aeccdd85cce6aad83305fbdefdfd0d85599fb57024d727232a856aceac182b75", func := "astrolabe/astrolabelaw32.GateExact", spec := "gateExact", unfollowed := true, recurses := true, apart := false }
def GateExactSaid : Prop := gateExactRow.holds Try.pinned (OpenSpec.ofChange gateExactSpec)

/-- ITS FALSE NEIGHBOUR: 'it returns false'. Refute it at one input. -/
def gateExactWrong : ChangeSpec := { name := "gateExact", fn := fun _ => fun
  | [d] => { results := [.lit (.bool false)], args := [d] }
  | _ => none }
def GateExactWrongFalsely : Prop := gateExactRow.holds Try.pinned (OpenSpec.ofChange gateExactWrong)

/-- 'astrolabelaw32.GateUnits': WHATEVER THE INPUT: true; the input reads as it did. -/
def gateUnitsSpec : ChangeSpec := { name := "gateUnits", fn := fun _ => fun
  | [d] => { results := [.lit (.bool true)], args := [d] }
  | _ => none }
def gateUnitsRow : OpenClaim := { program := "ytbmfcedndbgpoaa", sum := "aeccdd85cce6aad83305fbdefdfd0d85599fb57024d727232a856aceac182b75", func := "astrolabe/astrolabelaw32.GateUnits", spec := "gateUnits", unfollowed := true, recurses := true, apart := false }
def GateUnitsSaid : Prop := gateUnitsRow.holds Try.pinned (OpenSpec.ofChange gateUnitsSpec)

/-- ITS FALSE NEIGHBOUR: 'it returns false'. Refute it at one input. -/
def gateUnitsWrong : ChangeSpec := { name := "gateUnits", fn := fun _ => fun
  | [d] => { results := [.lit (.bool false)], args := [d] }
  | _ => none }
def GateUnitsWrongFalsely : Prop := gateUnitsRow.holds Try.pinned (OpenSpec.ofChange gateUnitsWrong)

/-- 'astrolabelaw32.GateTurns': WHATEVER THE INPUT: true; the input reads as it did. -/
def gateTurnsSpec : ChangeSpec := { name := "gateTurns", fn := fun _ => fun
  | [d1, d2] => { results := [.lit (.bool true)], args := [d1, d2] }
  | _ => none }
def gateTurnsRow : OpenClaim := { program := "ytbmfcedndbgpoaa", sum := "aeccdd85cce6aad83305fbdefdfd0d85599fb57024d727232a856aceac182b75", func := "astrolabe/astrolabelaw32.GateTurns", spec := "gateTurns", unfollowed := true, recurses := true, apart := false }
def GateTurnsSaid : Prop := gateTurnsRow.holds Try.pinned (OpenSpec.ofChange gateTurnsSpec)

/-- ITS FALSE NEIGHBOUR: 'it returns false'. Refute it at one input. -/
def gateTurnsWrong : ChangeSpec := { name := "gateTurns", fn := fun _ => fun
  | [d1, d2] => { results := [.lit (.bool false)], args := [d1, d2] }
  | _ => none }
def GateTurnsWrongFalsely : Prop := gateTurnsRow.holds Try.pinned (OpenSpec.ofChange gateTurnsWrong)

/-- 'astrolabelaw33.GradStill': WHATEVER THE INPUT: true; the input reads as it did. -/
def gradStillSpec : ChangeSpec := { name := "gradStill", fn := fun _ => fun
  | [d1, d2] => { results := [.lit (.bool true)], args := [d1, d2] }
  | _ => none }
def gradStillRow : OpenClaim := { program := "ytbmfcedndbgpoaa", sum := "aeccdd85cce6aad83305fbdefdfd0d85599fb57024d727232a856aceac182b75", func := "astrolabe/astrolabelaw33.GradStill", spec := "gradStill", unfollowed := true, recurses := true, apart := false }
def GradStillSaid : Prop := gradStillRow.holds Try.pinned (OpenSpec.ofChange gradStillSpec)

/-- ITS FALSE NEIGHBOUR: 'it returns false'. Refute it at one input. -/
def gradStillWrong : ChangeSpec := { name := "gradStill", fn := fun _ => fun
  | [d1, d2] => { results := [.lit (.bool false)], args := [d1, d2] }
  | _ => none }
def GradStillWrongFalsely : Prop := gradStillRow.holds Try.pinned (OpenSpec.ofChange gradStillWrong)

/-- 'astrolabelaw33.GradShort': WHATEVER THE INPUT: true; the input reads as it did. -/
def gradShortSpec : ChangeSpec := { name := "gradShort", fn := fun _ => fun
  | [d] => { results := [.lit (.bool true)], args := [d] }
  | _ => none }
def gradShortRow : OpenClaim := { program := "ytbmfcedndbgpoaa", sum := "aeccdd85cce6aad83305fbdefdfd0d85599fb57024d727232a856aceac182b75", func := "astrolabe/astrolabelaw33.GradShort", spec := "gradShort", unfollowed := true, recurses := true, apart := false }
def GradShortSaid : Prop := gradShortRow.holds Try.pinned (OpenSpec.ofChange gradShortSpec)

/-- ITS FALSE NEIGHBOUR: 'it returns false'. Refute it at one input. -/
def gradShortWrong : ChangeSpec := { name := "gradShort", fn := fun _ => fun
  | [d] => { results := [.lit (.bool false)], args := [d] }
  | _ => none }
def GradShortWrongFalsely : Prop := gradShortRow.holds Try.pinned (OpenSpec.ofChange gradShortWrong)

/-- 'astrolabelaw35.EulerBounds': WHATEVER THE INPUT: true; the input reads as it did. -/
def eulerBoundsSpec : ChangeSpec := { name := "eulerBounds", fn := fun _ => fun
  | [d] => { results := [.lit (.bool true)], args := [d] }
  | _ => none }
def eulerBoundsRow : OpenClaim := { program := "ytbmfcedndbgpoaa", sum := "aeccdd85cce6aad83305fbdefdfd0d85599fb57024d727232a856aceac182b75", func := "astrolabe/astrolabelaw35.EulerBounds", spec := "eulerBounds", unfollowed := true, recurses := true, apart := false }
def EulerBoundsSaid : Prop := eulerBoundsRow.holds Try.pinned (OpenSpec.ofChange eulerBoundsSpec)

/-- ITS FALSE NEIGHBOUR: 'it returns false'. Refute it at one input. -/
def eulerBoundsWrong : ChangeSpec := { name := "eulerBounds", fn := fun _ => fun
  | [d] => { results := [.lit (.bool false)], args := [d] }
  | _ => none }
def EulerBoundsWrongFalsely : Prop := eulerBoundsRow.holds Try.pinned (OpenSpec.ofChange eulerBoundsWrong)

/-- 'astrolabelaw33.GradNorth': WHATEVER THE INPUT: true; the input reads as it did. -/
def gradNorthSpec : ChangeSpec := { name := "gradNorth", fn := fun _ => fun
  | [d1, d2] => { results := [.lit (.bool true)], args := [d1, d2] }
  | _ => none }
def gradNorthRow : OpenClaim := { program := "ytbmfcedndbgpoaa", sum := "aeccdd85cce6aad83305fbdefdfd0d85599fb57024d727232a856aceac182b75", func := "astrolabe/astrolabelaw33.GradNorth", spec := "gradNorth", unfollowed := true, recurses := true, apart := false }
def GradNorthSaid : Prop := gradNorthRow.holds Try.pinned (OpenSpec.ofChange gradNorthSpec)

/-- ITS FALSE NEIGHBOUR: 'it returns false'. Refute it at one input. -/
def gradNorthWrong : ChangeSpec := { name := "gradNorth", fn := fun _ => fun
  | [d1, d2] => { results := [.lit (.bool false)], args := [d1, d2] }
  | _ => none }
def GradNorthWrongFalsely : Prop := gradNorthRow.holds Try.pinned (OpenSpec.ofChange gradNorthWrong)

/- THE SECOND FORM. 'bulk': how many values and letters a reading holds, each counted each time it is reached (what is shared counts as often as it is met; a slice's spare places count too). A statement '..UptoSaid' is the law's where the arguments, and the package variables that the reading takes, are together of bulk at most 1048576: NARROWER than '..Said'. Prove '..Said' where nothing that the law and all that it calls make is longer than what came in: it says more and counts as full. Else prove '..UptoSaid'. A law counts once. -/
mutual
def uptoBulk {H : Type} : DataW H → Nat
  | .lit (.string bytes) => bytes.length + 1
  | .lit _ => 1
  | .nil => 1
  | .ptr d => uptoBulk d + 1
  | .slice elems spare => uptoBulkAll elems + uptoBulkAll spare + 1
  | .agg parts => uptoBulkAll parts + 1
  | .iface _ d => uptoBulk d + 1
  | .map entries => uptoBulkEntries entries + 1
  | .held _ => 1
def uptoBulkAll {H : Type} : List (DataW H) → Nat
  | [] => 0
  | d :: r => uptoBulk d + uptoBulkAll r
def uptoBulkEntries {H : Type} : List (Lit × DataW H) → Nat
  | [] => 0
  | x :: r => uptoBulkEntry x + uptoBulkEntries r
def uptoBulkEntry {H : Type} : Lit × DataW H → Nat
  | (.string bytes, d) => bytes.length + uptoBulk d + 1
  | (_, d) => uptoBulk d + 1
 end
def uptoSmall : (H : Type) → List (DataW H) → Bool := fun _ ds => decide (uptoBulkAll ds ≤ 1048576)
def OpenSpec.upto (s : _root_.Go.ChangeSpec) : _root_.Go.OpenSpec := { _root_.Go.OpenSpec.ofChange s with cond := some uptoSmall }

/-- 'astrolabelaw32.GateExact', WHERE WHAT IT READS IS OF BULK AT MOST 1048576: true; the input reads as it did. -/
def gateExactUptoRow : OpenClaim := { program := "ytbmfcedndbgpoaa", sum := "aeccdd85cce6aad83305fbdefdfd0d85599fb57024d727232a856aceac182b75", func := "astrolabe/astrolabelaw32.GateExact", spec := "gateExact", unfollowed := true, recurses := true, apart := false, narrowed := true }
def GateExactUptoSaid : Prop := gateExactUptoRow.holds Try.pinned (OpenSpec.upto gateExactSpec)

/-- 'astrolabelaw32.GateUnits', WHERE WHAT IT READS IS OF BULK AT MOST 1048576: true; the input reads as it did. -/
def gateUnitsUptoRow : OpenClaim := { program := "ytbmfcedndbgpoaa", sum := "aeccdd85cce6aad83305fbdefdfd0d85599fb57024d727232a856aceac182b75", func := "astrolabe/astrolabelaw32.GateUnits", spec := "gateUnits", unfollowed := true, recurses := true, apart := false, narrowed := true }
def GateUnitsUptoSaid : Prop := gateUnitsUptoRow.holds Try.pinned (OpenSpec.upto gateUnitsSpec)

/-- 'astrolabelaw32.GateTurns', WHERE WHAT IT READS IS OF BULK AT MOST 1048576: true; the input reads as it did. -/
def gateTurnsUptoRow : OpenClaim := { program := "ytbmfcedndbgpoaa", sum := "aeccdd85cce6aad83305fbdefdfd0d85599fb57024d727232a856aceac182b75", func := "astrolabe/astrolabelaw32.GateTurns", spec := "gateTurns", unfollowed := true, recurses := true, apart := false, narrowed := true }
def GateTurnsUptoSaid : Prop := gateTurnsUptoRow.holds Try.pinned (OpenSpec.upto gateTurnsSpec)

/-- 'astrolabelaw33.GradStill', WHERE WHAT IT READS IS OF BULK AT MOST 1048576: true; the input reads as it did. -/
def gradStillUptoRow : OpenClaim := { program := "ytbmfcedndbgpoaa", sum := "aeccdd85cce6aad83305fbdefdfd0d85599fb57024d727232a856aceac182b75", func := "astrolabe/astrolabelaw33.GradStill", spec := "gradStill", unfollowed := true, recurses := true, apart := false, narrowed := true }
def GradStillUptoSaid : Prop := gradStillUptoRow.holds Try.pinned (OpenSpec.upto gradStillSpec)

/-- 'astrolabelaw33.GradShort', WHERE WHAT IT READS IS OF BULK AT MOST 1048576: true; the input reads as it did. -/
def gradShortUptoRow : OpenClaim := { program := "ytbmfcedndbgpoaa", sum := "aeccdd85cce6aad83305fbdefdfd0d85599fb57024d727232a856aceac182b75", func := "astrolabe/astrolabelaw33.GradShort", spec := "gradShort", unfollowed := true, recurses := true, apart := false, narrowed := true }
def GradShortUptoSaid : Prop := gradShortUptoRow.holds Try.pinned (OpenSpec.upto gradShortSpec)

/-- 'astrolabelaw35.EulerBounds', WHERE WHAT IT READS IS OF BULK AT MOST 1048576: true; the input reads as it did. -/
def eulerBoundsUptoRow : OpenClaim := { program := "ytbmfcedndbgpoaa", sum := "aeccdd85cce6aad83305fbdefdfd0d85599fb57024d727232a856aceac182b75", func := "astrolabe/astrolabelaw35.EulerBounds", spec := "eulerBounds", unfollowed := true, recurses := true, apart := false, narrowed := true }
def EulerBoundsUptoSaid : Prop := eulerBoundsUptoRow.holds Try.pinned (OpenSpec.upto eulerBoundsSpec)

/-- 'astrolabelaw33.GradNorth', WHERE WHAT IT READS IS OF BULK AT MOST 1048576: true; the input reads as it did. -/
def gradNorthUptoRow : OpenClaim := { program := "ytbmfcedndbgpoaa", sum := "aeccdd85cce6aad83305fbdefdfd0d85599fb57024d727232a856aceac182b75", func := "astrolabe/astrolabelaw33.GradNorth", spec := "gradNorth", unfollowed := true, recurses := true, apart := false, narrowed := true }
def GradNorthUptoSaid : Prop := gradNorthUptoRow.holds Try.pinned (OpenSpec.upto gradNorthSpec)

end Rows
end Go.Proofs.Ytbmfcedndbgpoaa
