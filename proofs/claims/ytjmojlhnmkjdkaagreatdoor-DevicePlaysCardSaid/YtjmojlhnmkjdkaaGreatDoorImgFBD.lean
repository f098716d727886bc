/- The filter's image: a piece, reckoned by the kernel. -/
import Derived.Test.YtjmojlhnmkjdkaaGreatDoorDP11
set_option linter.unusedVariables false
namespace Go.Proofs.YtjmojlhnmkjdkaaGreatDoor
open Go Go.RowKit Ab Xi
set_option maxRecDepth 100000
theorem atZ(b:MP):runK 5000 ((dF (rS b)).take 141) [27,28,29,30,63,66,69,72,75,78,81,84,87] [] stA (fun ρ ps s=>some (ρ,ps,s))=some (Ol,List.replicate 165 ⟨b.a,0,none⟩,acB):=by kernel_rfl
