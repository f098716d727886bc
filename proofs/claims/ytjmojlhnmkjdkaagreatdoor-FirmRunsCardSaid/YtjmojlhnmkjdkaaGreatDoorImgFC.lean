/- The filter's image: a piece, reckoned by the kernel. -/
import Derived.Test.YtjmojlhnmkjdkaaGreatDoorFR11
set_option linter.unusedVariables false
namespace Go.Proofs.YtjmojlhnmkjdkaaGreatDoor
open Go Go.RowKit Ab Xi
set_option maxRecDepth 100000
theorem ap7 (b:MP):runK 5000 ((dF (rF b)).drop 50) PY [] stB (acB (rF b))=some (true,[.arr A8,.sli bG],rhoC,List.replicate 410 ⟨b.a,0,none⟩,Z7):=by kernel_rfl
