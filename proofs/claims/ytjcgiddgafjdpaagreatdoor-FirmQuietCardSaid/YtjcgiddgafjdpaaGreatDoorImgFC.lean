/- The filter's image: a piece, reckoned by the kernel. -/
import Derived.Test.YtjcgiddgafjdpaaGreatDoorFQ14
namespace Go.Proofs.YtjcgiddgafjdpaaGreatDoor
open Go Go.RowKit Go.Proofs.YtjcgiddgafjdpaaGreatDoor.Ab Go.Proofs.YtjcgiddgafjdpaaGreatDoor.Xi
set_option linter.unusedVariables false
set_option maxRecDepth 100000
theorem akV (b:MP):runK 5000 ((dF (rF b)).drop 50) Lj [] stB (YV (rF b)) = some (true,[.arr yu,.sli bD],rhoC,List.replicate 410 ⟨b.a,0,none⟩,Ws):=by kernel_rfl
end Go.Proofs.YtjcgiddgafjdpaaGreatDoor
