/- The filter's image: a piece, reckoned by the kernel. -/
import Derived.Test.YtjcgiddgafjdpaaGreatDoorFQ14
namespace Go.Proofs.YtjcgiddgafjdpaaGreatDoor
open Go Go.RowKit Go.Proofs.YtjcgiddgafjdpaaGreatDoor.Ab Go.Proofs.YtjcgiddgafjdpaaGreatDoor.Xi
set_option linter.unusedVariables false
set_option maxRecDepth 100000
theorem afU (b:MP):runK 5000 (((dF (rS b)).drop 141).drop 153) BZ [] YS (YV (rS b)) = some (true,[.arr [493,495,497,499],.num 98,.num 109],yV,List.replicate 159 ⟨b.a,0,none⟩,stB):=by kernel_rfl
end Go.Proofs.YtjcgiddgafjdpaaGreatDoor
