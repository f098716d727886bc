/- The core: Marks; a core and its memory as one. -/
import Derived.Test.YtjcgiddgafjdpaaGreatDoorFR16
import Derived.Test.YtjcgiddgafjdpaaGreatDoorGlo
import Derived.Lib.SliceRun
namespace Go.Proofs.YtjcgiddgafjdpaaGreatDoor
open Go Go.RowKit Go.Deep Go.Maps
set_option linter.unusedVariables false
attribute [local go_sem] Oper.semAt_some
end Go.Proofs.YtjcgiddgafjdpaaGreatDoor
