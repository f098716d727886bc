/- The document's builder: Resolve, Finish. -/
import Derived.Test.YtjfnpokebaagmaaGreatDoorRbB
import Derived.Test.YtjfnpokebaagmaaGreatDoorPbH
import Derived.Test.YtjfnpokebaagmaaGreatDoorBL2
namespace Go.Proofs.YtjfnpokebaagmaaGreatDoor
open Go.RowKit Go.Deep Go.Maps
set_option linter.unusedVariables false
attribute [local go_sem] Oper.semAt_some
end Go.Proofs.YtjfnpokebaagmaaGreatDoor
