/- The words of Unit, and of a step's parts. -/
import Derived.Test.YtbmfcedndbgpoaaGreatWorks8
namespace Go.Proofs.YtbmfcedndbgpoaaGreat
open Go.RowKit Go.Deep
set_option linter.unusedVariables false
/-- A quaternion of the norm 1. -/
def unitW (x0 x1 x2 x3 : Wd) : Q4 := ⟨scaledW x0 (rootW (normW x0 [x1, x2, x3])).1 (rootW (normW x0 [x1, x2, x3])).2, scaledW x1 (rootW (normW x0 [x1, x2, x3])).1 (rootW (normW x0 [x1, x2, x3])).2, scaledW x2 (rootW (normW x0 [x1, x2, x3])).1 (rootW (normW x0 [x1, x2, x3])).2, scaledW x3 (rootW (normW x0 [x1, x2, x3])).1 (rootW (normW x0 [x1, x2, x3])).2⟩
/-- A word within bounds. -/
def clipW (x : Wd) : Wd := minW (maxW x (kW (-134217728))) (kW 134217728)
/-- A quaternion's part behind a step, ahead of Unit. -/
def partW (q r b ga : Wd) : Wd := addsW q (clipW (subsW r (andW (downW b 8) ga)))
end Go.Proofs.YtbmfcedndbgpoaaGreat
