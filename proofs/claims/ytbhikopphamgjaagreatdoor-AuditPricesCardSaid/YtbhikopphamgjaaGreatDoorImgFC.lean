/- The filter's image: a piece, reckoned by the kernel. -/
import Derived.Test.YtbhikopphamgjaaGreatDoorAU11
set_option linter.unusedVariables false
namespace Go.Proofs.YtbhikopphamgjaaGreatDoor
open Go Go.RowKit Ab Xi
set_option maxRecDepth 100000
theorem alf (b:MP):runK 5000 ((dF (rF b)).drop 50) Nc [] stB (Zu (rF b)) = some (true,[.arr yK,.sli bP],rhoC,List.replicate 410 ⟨b.a,0,none⟩,Xb):=by kernel_rfl
end Go.Proofs.YtbhikopphamgjaaGreatDoor
