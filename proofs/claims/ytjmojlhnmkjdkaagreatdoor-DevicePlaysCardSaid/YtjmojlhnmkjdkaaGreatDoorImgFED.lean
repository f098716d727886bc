/- The filter's image: a piece, reckoned by the kernel. -/
import Derived.Test.YtjmojlhnmkjdkaaGreatDoorDP11
set_option linter.unusedVariables false
namespace Go.Proofs.YtjmojlhnmkjdkaaGreatDoor
open Go Go.RowKit Ab Xi
set_option maxRecDepth 100000
theorem ali(b:MP):runK 5000 (((dF (rS b)).drop 141).drop 153) Fq [] acC (acF (rS b))=some (true,[.arr [493,495,497,499],.num 98,.num 109],Cb,List.replicate 159 ⟨b.a,0,none⟩,stB):=by kernel_rfl
