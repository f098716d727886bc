/- The closed facts of the law, one by one. -/
import Derived.Test.YtjmojlhnmkjdkaaGreatDoorRows
import Derived.WalkKit
import Derived.ProofKit
namespace Go.Proofs.YtjmojlhnmkjdkaaGreatDoor
open Go Go.RowKit Go.ChangeShapes Go.WideShapes
theorem aop{a b:Bool}(h:a=true)(k:b=true):(a&&b)=true:=by rw [h,k]; rfl
set_option maxRecDepth 100000 in
set_option maxHeartbeats 100000000 in
theorem aoq:joinedFacts Tryz.prog 4 Tryz.f4 Rows.devicePlaysSpec Rows.devicePlaysRow=true:=by
 unfold joinedFacts
 repeat' (with_reducible apply aop)
 all_goals (as_aux_lemma=>(show _=_; kernel_rfl))
