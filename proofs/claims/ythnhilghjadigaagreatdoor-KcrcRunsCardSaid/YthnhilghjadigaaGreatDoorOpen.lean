/- How arguments are opened to cells, where the kit's own words for it do not reach: slices of structs. -/
import Derived.Test.YthnhilghjadigaaGreatDoorKC1
import Derived.WalkKit
import Derived.ProofKit
import Derived.OpenShut
import Derived.Deep.Slices
namespace Go.Proofs.YthnhilghjadigaaGreatDoor
open Go.ChangeShapes Go.WideShapes Go.ChangeAt Go.RowKit
section
variable {H : Type} {enc : TypeId × Value → H} {P : Program} {w : World} {base : Nat} {spare : Nat → Bool} {held : Bool}
def leaves (P : Program) : Nat → TypeId → List TypeId
 | 0, t => [t]
 | d + 1, t => match P.underlying t with
  | some (.struct fs) => (fs.toList.map fun f => leaves P d f.type).flatten
  | some (.array n e) => (List.replicate n (leaves P d e)).flatten
  | _ => [t]
end
end Go.Proofs.YthnhilghjadigaaGreatDoor
