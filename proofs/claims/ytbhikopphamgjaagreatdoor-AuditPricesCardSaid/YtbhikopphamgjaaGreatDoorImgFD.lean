/- The filter's image: a piece, reckoned by the kernel. -/
import Derived.Test.YtbhikopphamgjaaGreatDoorAU11
set_option linter.unusedVariables false
namespace Go.Proofs.YtbhikopphamgjaaGreatDoor
open Go Go.RowKit Ab Xi
set_option maxRecDepth 100000
theorem ant (b:MP):runK 5000 (((dF (rS b)).drop 141).take 153) KL [] Zp (fun ρ ps s => some (ρ,ps,s)) = some (Dp,List.replicate 165 ⟨b.a,0,none⟩,Zq):=by kernel_rfl
end Go.Proofs.YtbhikopphamgjaaGreatDoor
