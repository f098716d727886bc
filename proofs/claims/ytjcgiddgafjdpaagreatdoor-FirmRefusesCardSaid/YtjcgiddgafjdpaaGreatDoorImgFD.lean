/- The filter's image: a piece, reckoned by the kernel. -/
import Derived.Test.YtjcgiddgafjdpaaGreatDoorFR11
namespace Go.Proofs.YtjcgiddgafjdpaaGreatDoor
open Go Go.RowKit Go.Proofs.YtjcgiddgafjdpaaGreatDoor.Ab Go.Proofs.YtjcgiddgafjdpaaGreatDoor.Xi
set_option linter.unusedVariables false
set_option maxRecDepth 100000
theorem runB2 (b:MP):runK 5000 (((dF (rS b)).drop 141).take 153) rhoS1 [] stS1 (fun ρ ps s => some (ρ,ps,s)) = some (rhoS2,List.replicate 165 ⟨b.a,0,none⟩,stS2):=by kernel_rfl
end Go.Proofs.YtjcgiddgafjdpaaGreatDoor
