/- The filter's image: a piece, reckoned by the kernel. -/
import Derived.Test.YtjegdngblndkcaaGreatDoorDV11
namespace Go.Proofs.YtjegdngblndkcaaGreatDoor
open Go Go.RowKit Go.Proofs.YtjegdngblndkcaaGreatDoor.Ab Go.Proofs.YtjegdngblndkcaaGreatDoor.Xi
set_option linter.unusedVariables false
set_option maxRecDepth 100000
theorem ae5 (b:MP):runK 5000 (((dF (rS b)).drop 141).drop 153) BZ [] Yh (Yk (rS b)) = some (true,[.arr [493,495,497,499],.num 98,.num 109],yY,List.replicate 159 ⟨b.a,0,none⟩,stB):=by kernel_rfl
end Go.Proofs.YtjegdngblndkcaaGreatDoor
