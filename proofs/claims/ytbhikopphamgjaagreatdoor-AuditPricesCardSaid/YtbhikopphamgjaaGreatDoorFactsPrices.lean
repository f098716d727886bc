/- The closed facts of the law, one by one. -/
import Derived.Test.YtbhikopphamgjaaGreatDoorRows
import Derived.WalkKit
import Derived.ProofKit
namespace Go.Proofs.YtbhikopphamgjaaGreatDoor
open Go Go.RowKit Go.ChangeShapes Go.WideShapes
theorem VW {a b:Bool} (h:a = true) (k:b = true):(a && b) = true:=by rw [h,k]; rfl
set_option maxRecDepth 100000 in
set_option maxHeartbeats 100000000 in
theorem VX:joinedFacts Tryz.prog 5 Tryz.f5 Rows.auditPricesSpec Rows.auditPricesRow = true:=by
 unfold joinedFacts
 repeat' (with_reducible apply VW)
 all_goals (as_aux_lemma => (show _ = _; kernel_rfl))
end Go.Proofs.YtbhikopphamgjaaGreatDoor
