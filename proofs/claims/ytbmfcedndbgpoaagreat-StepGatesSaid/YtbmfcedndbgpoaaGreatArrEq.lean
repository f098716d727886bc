/- '==' on arrays of ints. -/
import Derived.Test.YtbmfcedndbgpoaaGreatKeep
import Derived.ChangeKeysEq
import Derived.Laws.StructEq
namespace Go.Proofs.YtbmfcedndbgpoaaGreat
open Go.RowKit Go.Deep
set_option linter.unusedVariables false
theorem eql_quat (a b c d : Int) (w : World) : (binOp .eql 28 (.agg #[.int .i32 a, .int .i32 b, .int .i32 c, .int .i32 d]) (.agg #[.int .i32 a, .int .i32 b, .int .i32 c, .int .i32 d])).run Tryz.prog w = .ok (.bool true) w := by
  obtain ⟨i, hi⟩ : ∃ i, Tryz.prog.info? 21 = some i := Option.isSome_iff_exists.1 (by kernel_rfl)
  rw [run_eql_struct, show (10000 : Nat) = 9999 + 1 from rfl, run_equalIn_array w 9999 _ _ Tryz.underlying28 hi]
  have e : List.range 4 = [0, 1, 2, 3] := by decide
  rw [e]
  have hc : Tryz.prog.cellsOf 21 = 1 := by kernel_rfl
  simp [Op.eqItems, hc, go_sem]
end Go.Proofs.YtbmfcedndbgpoaaGreat
