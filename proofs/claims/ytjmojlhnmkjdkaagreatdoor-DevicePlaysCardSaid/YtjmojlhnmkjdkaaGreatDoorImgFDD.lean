/- The filter's image: a piece, reckoned by the kernel. -/
import Derived.Test.YtjmojlhnmkjdkaaGreatDoorDP11
set_option linter.unusedVariables false
namespace Go.Proofs.YtjmojlhnmkjdkaaGreatDoor
open Go Go.RowKit Ab Xi
set_option maxRecDepth 100000
theorem at1(b:MP):runK 5000 (((dF (rS b)).drop 141).take 153) Ol [] acB (fun ρ ps s=>some (ρ,ps,s))=some (Fq,List.replicate 165 ⟨b.a,0,none⟩,acC):=by kernel_rfl
