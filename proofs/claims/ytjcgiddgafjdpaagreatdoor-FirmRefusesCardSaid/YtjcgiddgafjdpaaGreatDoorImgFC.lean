/- The filter's image: a piece, reckoned by the kernel. -/
import Derived.Test.YtjcgiddgafjdpaaGreatDoorFR11
namespace Go.Proofs.YtjcgiddgafjdpaaGreatDoor
open Go Go.RowKit Go.Proofs.YtjcgiddgafjdpaaGreatDoor.Ab Go.Proofs.YtjcgiddgafjdpaaGreatDoor.Xi
set_option linter.unusedVariables false
set_option maxRecDepth 100000
theorem runC (b:MP):runK 5000 ((dF (rF b)).drop 50) rhoB [] stB (endF (rF b)) = some (true,[.arr isFirm,.sli outsFirm],rhoC,List.replicate 410 ⟨b.a,0,none⟩,stC):=by kernel_rfl
end Go.Proofs.YtjcgiddgafjdpaaGreatDoor
