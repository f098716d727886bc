/- The program's builder: a label. -/
import Derived.Test.YtjfnpokebaagmaaGreatDoorPbB
import Derived.StillTailTactics
namespace Go.Proofs.YtjfnpokebaagmaaGreatDoor
open Go.RowKit Go.Deep Go.Maps
set_option linter.unusedVariables false
attribute [local go_sem] Oper.semAt_some
theorem defM_eq (bm : BM) (s : Nm) (p : Int) : defM bm s p = (defE bm.defs s, { bm with defs := defD bm.defs s p }) := by
 unfold defM defD defE
 cases h : isL s with
 | false => simp
 | true => cases h2 : (findL bm.defs s).isSome <;> simp
end Go.Proofs.YtjfnpokebaagmaaGreatDoor
