/- The filter's image: a piece, reckoned by the kernel. -/
import Derived.Test.YtjcgiddgafjdpaaGreatDoorFQ14
namespace Go.Proofs.YtjcgiddgafjdpaaGreatDoor
open Go Go.RowKit Go.Proofs.YtjcgiddgafjdpaaGreatDoor.Ab Go.Proofs.YtjcgiddgafjdpaaGreatDoor.Xi
set_option linter.unusedVariables false
set_option maxRecDepth 100000
theorem anz (b:MP):runK 5000 (((dF (rS b)).drop 141).take 153) Jw [] YR (fun ρ ps s => some (ρ,ps,s)) = some (BZ,List.replicate 165 ⟨b.a,0,none⟩,YS):=by kernel_rfl
end Go.Proofs.YtjcgiddgafjdpaaGreatDoor
