/-
  No cell of these rows narrows 'for every input' (looked for: loops, veiled, ifaces, maps, wideKeys, modest, calm, conditions, laid).
  DERIVED. THE GIVEN ROWS OF THIS SEAT. 3 by the template 'for every input the law returns true; each argument reads behind the call as it read before'; 0 by the template 'total and deterministic' (their statements: YtkfkoobdmnndcaaGreatTotals.lean).
  GIVEN WITH THE SEED: the statements are not yours to turn. If you find one false, say at which input.
  Laid BY PROGRAM, IN A SANDBOX (cutbox-rows.mjs): the forced cells as the released guide's own fill.sh prints them over the translation 0d8764ee89bb2740… (all of the seat's roots in one cut). By AI agents, Wed Nov 11 2026. No macro, syntax, notation, axiom, sorry.
-/
import Derived.Test.YtkfkoobdmnndcaaGreatChecked
import GoSem.Claim
import GoSem.ClaimJoined
import GoSem.ClaimMapViews
import Derived.JoinedTies
import Derived.KernelRfl
namespace Go.Proofs.YtkfkoobdmnndcaaGreat
/- THE CELL 'sum', in the pinned program and in every row, IS THE sha256 OF THE DUMP (.gsa) THAT YtkfkoobdmnndcaaGreatProg.lean LOADS. Nothing in Lean hashes anything: it is a label: what it is worth is what the hold of that sum in a sandbox is worth. -/
noncomputable def Tryz.pinned : Pinned := { name := "ytkfkoobdmnndcaagreat", sum := "0d8764ee89bb2740f9851347d5ed9a00f7c21f2159d357cfa0761759a50faa02", checked := Tryz.checked }
namespace Rows
def none {H : Type} : Left H := { results := [], args := [] }

/-- 'astrolabelaw32.GateTells': WHATEVER THE INPUT: true; the input reads as it did. -/
def gateTellsSpec : ChangeSpec := { name := "gateTells", fn := fun _ => fun
  | [d] => { results := [.lit (.bool true)], args := [d] }
  | _ => none }
def gateTellsRow : OpenClaim := { program := "ytkfkoobdmnndcaagreat", sum := "0d8764ee89bb2740f9851347d5ed9a00f7c21f2159d357cfa0761759a50faa02", func := "astrolabe/astrolabelaw32.GateTells", spec := "gateTells", unfollowed := true, recurses := true, apart := false }
def GateTellsSaid : Prop := gateTellsRow.holds Tryz.pinned (OpenSpec.ofChange gateTellsSpec)

/-- ITS FALSE NEIGHBOUR: 'it returns false'. Refute it at one input. -/
def gateTellsWrong : ChangeSpec := { name := "gateTells", fn := fun _ => fun
  | [d] => { results := [.lit (.bool false)], args := [d] }
  | _ => none }
def GateTellsWrongFalsely : Prop := gateTellsRow.holds Tryz.pinned (OpenSpec.ofChange gateTellsWrong)

/-- 'astrolabelaw35.EulerTells': WHATEVER THE INPUT: true; the input reads as it did. -/
def eulerTellsSpec : ChangeSpec := { name := "eulerTells", fn := fun _ => fun
  | [d] => { results := [.lit (.bool true)], args := [d] }
  | _ => none }
def eulerTellsRow : OpenClaim := { program := "ytkfkoobdmnndcaagreat", sum := "0d8764ee89bb2740f9851347d5ed9a00f7c21f2159d357cfa0761759a50faa02", func := "astrolabe/astrolabelaw35.EulerTells", spec := "eulerTells", unfollowed := true, recurses := true, apart := false }
def EulerTellsSaid : Prop := eulerTellsRow.holds Tryz.pinned (OpenSpec.ofChange eulerTellsSpec)

/-- ITS FALSE NEIGHBOUR: 'it returns false'. Refute it at one input. -/
def eulerTellsWrong : ChangeSpec := { name := "eulerTells", fn := fun _ => fun
  | [d] => { results := [.lit (.bool false)], args := [d] }
  | _ => none }
def EulerTellsWrongFalsely : Prop := eulerTellsRow.holds Tryz.pinned (OpenSpec.ofChange eulerTellsWrong)

/-- 'astrolabelaw33.GradTells': WHATEVER THE INPUT: true; the input reads as it did. -/
def gradTellsSpec : ChangeSpec := { name := "gradTells", fn := fun _ => fun
  | [d1, d2, d3] => { results := [.lit (.bool true)], args := [d1, d2, d3] }
  | _ => none }
def gradTellsRow : OpenClaim := { program := "ytkfkoobdmnndcaagreat", sum := "0d8764ee89bb2740f9851347d5ed9a00f7c21f2159d357cfa0761759a50faa02", func := "astrolabe/astrolabelaw33.GradTells", spec := "gradTells", unfollowed := true, recurses := true, apart := false }
def GradTellsSaid : Prop := gradTellsRow.holds Tryz.pinned (OpenSpec.ofChange gradTellsSpec)

/-- ITS FALSE NEIGHBOUR: 'it returns false'. Refute it at one input. -/
def gradTellsWrong : ChangeSpec := { name := "gradTells", fn := fun _ => fun
  | [d1, d2, d3] => { results := [.lit (.bool false)], args := [d1, d2, d3] }
  | _ => none }
def GradTellsWrongFalsely : Prop := gradTellsRow.holds Tryz.pinned (OpenSpec.ofChange gradTellsWrong)

/- THE SECOND FORM. 'bulk': how many values and letters a reading holds, each counted each time it is reached (what is shared counts as often as it is met; a slice's spare places count too). A statement '..UptoSaid' is the law's where the arguments, and the package variables that the reading takes, are together of bulk at most 1048576: NARROWER than '..Said'. Prove '..Said' where nothing that the law and all that it calls make is longer than what came in: it says more and counts as full. Else prove '..UptoSaid'. A law counts once. -/
mutual
def uptoBulk {H : Type} : DataW H → Nat
  | .lit (.string bytes) => bytes.length + 1
  | .lit _ => 1
  | .nil => 1
  | .ptr d => uptoBulk d + 1
  | .slice elems spare => uptoBulkAll elems + uptoBulkAll spare + 1
  | .agg parts => uptoBulkAll parts + 1
  | .iface _ d => uptoBulk d + 1
  | .map entries => uptoBulkEntries entries + 1
  | .held _ => 1
def uptoBulkAll {H : Type} : List (DataW H) → Nat
  | [] => 0
  | d :: r => uptoBulk d + uptoBulkAll r
def uptoBulkEntries {H : Type} : List (Lit × DataW H) → Nat
  | [] => 0
  | x :: r => uptoBulkEntry x + uptoBulkEntries r
def uptoBulkEntry {H : Type} : Lit × DataW H → Nat
  | (.string bytes, d) => bytes.length + uptoBulk d + 1
  | (_, d) => uptoBulk d + 1
 end
def uptoSmall : (H : Type) → List (DataW H) → Bool := fun _ ds => decide (uptoBulkAll ds ≤ 1048576)
def OpenSpec.upto (s : _root_.Go.ChangeSpec) : _root_.Go.OpenSpec := { _root_.Go.OpenSpec.ofChange s with cond := some uptoSmall }

/-- 'astrolabelaw32.GateTells', WHERE WHAT IT READS IS OF BULK AT MOST 1048576: true; the input reads as it did. -/
def gateTellsUptoRow : OpenClaim := { program := "ytkfkoobdmnndcaagreat", sum := "0d8764ee89bb2740f9851347d5ed9a00f7c21f2159d357cfa0761759a50faa02", func := "astrolabe/astrolabelaw32.GateTells", spec := "gateTells", unfollowed := true, recurses := true, apart := false, narrowed := true }
def GateTellsUptoSaid : Prop := gateTellsUptoRow.holds Tryz.pinned (OpenSpec.upto gateTellsSpec)

/-- 'astrolabelaw35.EulerTells', WHERE WHAT IT READS IS OF BULK AT MOST 1048576: true; the input reads as it did. -/
def eulerTellsUptoRow : OpenClaim := { program := "ytkfkoobdmnndcaagreat", sum := "0d8764ee89bb2740f9851347d5ed9a00f7c21f2159d357cfa0761759a50faa02", func := "astrolabe/astrolabelaw35.EulerTells", spec := "eulerTells", unfollowed := true, recurses := true, apart := false, narrowed := true }
def EulerTellsUptoSaid : Prop := eulerTellsUptoRow.holds Tryz.pinned (OpenSpec.upto eulerTellsSpec)

/-- 'astrolabelaw33.GradTells', WHERE WHAT IT READS IS OF BULK AT MOST 1048576: true; the input reads as it did. -/
def gradTellsUptoRow : OpenClaim := { program := "ytkfkoobdmnndcaagreat", sum := "0d8764ee89bb2740f9851347d5ed9a00f7c21f2159d357cfa0761759a50faa02", func := "astrolabe/astrolabelaw33.GradTells", spec := "gradTells", unfollowed := true, recurses := true, apart := false, narrowed := true }
def GradTellsUptoSaid : Prop := gradTellsUptoRow.holds Tryz.pinned (OpenSpec.upto gradTellsSpec)

end Rows
end Go.Proofs.YtkfkoobdmnndcaaGreat
