/- The filter's image: a piece, reckoned by the kernel. -/
import Derived.Test.YtjegdngblndkcaaGreatDoorDV11
namespace Go.Proofs.YtjegdngblndkcaaGreatDoor
open Go Go.RowKit Go.Proofs.YtjegdngblndkcaaGreatDoor.Ab Go.Proofs.YtjegdngblndkcaaGreatDoor.Xi
set_option linter.unusedVariables false
set_option maxRecDepth 100000
theorem ajB (b:MP):runK 5000 ((dF (rF b)).drop 50) Ls [] stB (Yk (rF b)) = some (true,[.arr yh,.sli dD],rhoC,List.replicate 410 ⟨b.a,0,none⟩,VA):=by kernel_rfl
end Go.Proofs.YtjegdngblndkcaaGreatDoor
