/- The document's table of names: Place, Define, Use. -/
import Derived.Test.YtjfnpokebaagmaaGreatDoorRbA
namespace Go.Proofs.YtjfnpokebaagmaaGreatDoor
open Go.RowKit Go.Deep Go.Maps
set_option linter.unusedVariables false
attribute [local go_sem] Oper.semAt_some
end Go.Proofs.YtjfnpokebaagmaaGreatDoor
