/- The filter's image: a piece, reckoned by the kernel. -/
import Derived.Test.YtnkmmaijigihpaaGreatDoorTT11
set_option linter.unusedVariables false
namespace Go.Proofs.YtnkmmaijigihpaaGreatDoor
open Go Go.RowKit Ab Xi
set_option maxRecDepth 100000
theorem alW (b:MP):runK 5000 ((dF (rF b)).drop 50) MI [] stB (ZB (rF b)) = some (true,[.arr yJ,.sli dL],rhoC,List.replicate 410 ⟨b.a,0,none⟩,Xd):=by kernel_rfl
end Go.Proofs.YtnkmmaijigihpaaGreatDoor
