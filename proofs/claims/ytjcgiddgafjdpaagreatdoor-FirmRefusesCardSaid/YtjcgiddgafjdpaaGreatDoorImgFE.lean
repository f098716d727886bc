/- The filter's image: a piece, reckoned by the kernel. -/
import Derived.Test.YtjcgiddgafjdpaaGreatDoorFR11
namespace Go.Proofs.YtjcgiddgafjdpaaGreatDoor
open Go Go.RowKit Go.Proofs.YtjcgiddgafjdpaaGreatDoor.Ab Go.Proofs.YtjcgiddgafjdpaaGreatDoor.Xi
set_option linter.unusedVariables false
set_option maxRecDepth 100000
theorem runB3 (b:MP):runK 5000 (((dF (rS b)).drop 141).drop 153) rhoS2 [] stS2 (endF (rS b)) = some (true,[.arr [493,495,497,499],.num 98,.num 109],rhoS3,List.replicate 159 ⟨b.a,0,none⟩,stB):=by kernel_rfl
end Go.Proofs.YtjcgiddgafjdpaaGreatDoor
