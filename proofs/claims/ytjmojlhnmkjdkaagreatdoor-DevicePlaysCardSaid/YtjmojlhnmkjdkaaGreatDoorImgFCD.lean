/- The filter's image: a piece, reckoned by the kernel. -/
import Derived.Test.YtjmojlhnmkjdkaaGreatDoorDP11
set_option linter.unusedVariables false
namespace Go.Proofs.YtjmojlhnmkjdkaaGreatDoor
open Go Go.RowKit Ab Xi
set_option maxRecDepth 100000
theorem aqA(b:MP):runK 5000 ((dF (rF b)).drop 50) Qc [] stB (acF (rF b))=some (true,[.arr A8,.sli dZ],rhoC,List.replicate 410 ⟨b.a,0,none⟩,stC):=by kernel_rfl
