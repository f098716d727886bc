/- The filter's image: a piece, reckoned by the kernel. -/
import Derived.Test.YtjegdngblndkcaaGreatDoorDV11
namespace Go.Proofs.YtjegdngblndkcaaGreatDoor
open Go Go.RowKit Go.Proofs.YtjegdngblndkcaaGreatDoor.Ab Go.Proofs.YtjegdngblndkcaaGreatDoor.Xi
set_option linter.unusedVariables false
set_option maxRecDepth 100000
theorem als (b:MP):runK 5000 (((dF (rS b)).drop 141).take 153) JE [] Yg (fun ρ ps s => some (ρ,ps,s)) = some (BZ,List.replicate 165 ⟨b.a,0,none⟩,Yh):=by kernel_rfl
end Go.Proofs.YtjegdngblndkcaaGreatDoor
