/- The closed facts of the law, one by one. -/
import Derived.Test.YtnkmmaijigihpaaGreatDoorRows
import Derived.WalkKit
import Derived.ProofKit
namespace Go.Proofs.YtnkmmaijigihpaaGreatDoor
open Go Go.RowKit Go.ChangeShapes Go.WideShapes
theorem agd {a b:Bool} (h:a = true) (k:b = true):(a && b) = true:=by rw [h,k]; rfl
set_option maxRecDepth 100000 in
set_option maxHeartbeats 100000000 in
theorem agf:joinedFacts Tryz.prog 3 Tryz.f3 Rows.topTraceSpec Rows.topTraceRow = true:=by
 unfold joinedFacts
 repeat' (with_reducible apply agd)
 all_goals (as_aux_lemma => (show _ = _; kernel_rfl))
end Go.Proofs.YtnkmmaijigihpaaGreatDoor
