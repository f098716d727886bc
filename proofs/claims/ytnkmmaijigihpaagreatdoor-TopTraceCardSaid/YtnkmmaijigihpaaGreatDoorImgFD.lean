/- The filter's image: a piece, reckoned by the kernel. -/
import Derived.Test.YtnkmmaijigihpaaGreatDoorTT11
set_option linter.unusedVariables false
namespace Go.Proofs.YtnkmmaijigihpaaGreatDoor
open Go Go.RowKit Ab Xi
set_option maxRecDepth 100000
theorem aof (b:MP):runK 5000 (((dF (rS b)).drop 141).take 153) Ko [] Zx (fun ρ ps s => some (ρ,ps,s)) = some (Dh,List.replicate 165 ⟨b.a,0,none⟩,Zy):=by kernel_rfl
end Go.Proofs.YtnkmmaijigihpaaGreatDoor
