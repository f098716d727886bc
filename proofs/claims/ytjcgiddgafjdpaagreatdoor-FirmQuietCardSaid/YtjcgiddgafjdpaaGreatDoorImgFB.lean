/- The filter's image: a piece, reckoned by the kernel. -/
import Derived.Test.YtjcgiddgafjdpaaGreatDoorFQ14
namespace Go.Proofs.YtjcgiddgafjdpaaGreatDoor
open Go Go.RowKit Go.Proofs.YtjcgiddgafjdpaaGreatDoor.Ab Go.Proofs.YtjcgiddgafjdpaaGreatDoor.Xi
set_option linter.unusedVariables false
set_option maxRecDepth 100000
theorem anx (b:MP):runK 5000 ((dF (rS b)).take 141) [27,28,29,30,63,66,69,72,75,78,81,84,87] [] stA (fun ρ ps s => some (ρ,ps,s)) = some (Jw,List.replicate 165 ⟨b.a,0,none⟩,YR):=by kernel_rfl
end Go.Proofs.YtjcgiddgafjdpaaGreatDoor
