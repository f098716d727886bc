/- The filter's image: a piece, reckoned by the kernel. -/
import Derived.Test.YtjmojlhnmkjdkaaGreatDoorFR11
set_option linter.unusedVariables false
namespace Go.Proofs.YtjmojlhnmkjdkaaGreatDoor
open Go Go.RowKit Ab Xi
set_option maxRecDepth 100000
theorem atj (b:MP):runK 5000 (((dF (rS b)).drop 141).take 153) NW [] acw (fun ρ ps s=>some (ρ,ps,s))=some (Fp,List.replicate 165 ⟨b.a,0,none⟩,acy):=by kernel_rfl
