/- The filter's image: a piece, reckoned by the kernel. -/
import Derived.Test.YtjegdngblndkcaaGreatDoorDV11
namespace Go.Proofs.YtjegdngblndkcaaGreatDoor
open Go Go.RowKit Go.Proofs.YtjegdngblndkcaaGreatDoor.Ab Go.Proofs.YtjegdngblndkcaaGreatDoor.Xi
set_option linter.unusedVariables false
set_option maxRecDepth 100000
theorem alr (b:MP):runK 5000 ((dF (rS b)).take 141) [27,28,29,30,63,66,69,72,75,78,81,84,87] [] stA (fun ρ ps s => some (ρ,ps,s)) = some (JE,List.replicate 165 ⟨b.a,0,none⟩,Yg):=by kernel_rfl
end Go.Proofs.YtjegdngblndkcaaGreatDoor
