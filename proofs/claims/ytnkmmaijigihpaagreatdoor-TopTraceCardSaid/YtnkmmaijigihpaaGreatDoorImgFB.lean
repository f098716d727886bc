/- The filter's image: a piece, reckoned by the kernel. -/
import Derived.Test.YtnkmmaijigihpaaGreatDoorTT11
set_option linter.unusedVariables false
namespace Go.Proofs.YtnkmmaijigihpaaGreatDoor
open Go Go.RowKit Ab Xi
set_option maxRecDepth 100000
theorem aoe (b:MP):runK 5000 ((dF (rS b)).take 141) [27,28,29,30,63,66,69,72,75,78,81,84,87] [] stA (fun ρ ps s => some (ρ,ps,s)) = some (Ko,List.replicate 165 ⟨b.a,0,none⟩,Zx):=by kernel_rfl
end Go.Proofs.YtnkmmaijigihpaaGreatDoor
