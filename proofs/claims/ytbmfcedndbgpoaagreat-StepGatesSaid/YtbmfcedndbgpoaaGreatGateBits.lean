/- The flags of a step, bit by bit. -/
import Derived.Test.YtbmfcedndbgpoaaGreatGateRef
namespace Go.Proofs.YtbmfcedndbgpoaaGreat
open Go.RowKit Go.Deep
set_option linter.unusedVariables false
theorem flags_acc (g m : Wd) : bits BinOp.and IntKind.i64 (flagsI g m) 2 = flagI g 2 := by
  unfold flagsI flagI
  by_cases a : g.v = 0 <;> by_cases b : m.v = 0
  · rw [if_pos a, if_pos b]; decide +kernel
  · rw [if_pos a, if_neg b]; decide +kernel
  · rw [if_neg a, if_pos b]; decide +kernel
  · rw [if_neg a, if_neg b]; decide +kernel
theorem flags_mag (g m : Wd) : bits BinOp.and IntKind.i64 (flagsI g m) 4 = flagI m 4 := by
  unfold flagsI flagI
  by_cases a : g.v = 0 <;> by_cases b : m.v = 0
  · rw [if_pos a, if_pos b]; decide +kernel
  · rw [if_pos a, if_neg b]; decide +kernel
  · rw [if_neg a, if_pos b]; decide +kernel
  · rw [if_neg a, if_neg b]; decide +kernel
theorem flags_rest (g m : Wd) : bits BinOp.andNot IntKind.i64 (flagsI g m) 6 = 0 := by
  unfold flagsI flagI
  by_cases a : g.v = 0 <;> by_cases b : m.v = 0
  · rw [if_pos a, if_pos b]; decide +kernel
  · rw [if_pos a, if_neg b]; decide +kernel
  · rw [if_neg a, if_pos b]; decide +kernel
  · rw [if_neg a, if_neg b]; decide +kernel
theorem flag_zero (g : Wd) (f : Int) (h : f ≠ 0) : decide (flagI g f = 0) = decide (g.v ≠ 0) := by
  unfold flagI
  by_cases a : g.v = 0
  · rw [if_pos a]; simp [a, h]
  · rw [if_neg a]; simp [a]
end Go.Proofs.YtbmfcedndbgpoaaGreat
