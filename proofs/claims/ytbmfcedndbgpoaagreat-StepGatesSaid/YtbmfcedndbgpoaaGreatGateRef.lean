/- The norm and the gate: works' words and the reference's agree. -/
import Derived.Test.YtbmfcedndbgpoaaGreatRef32b
import Derived.Test.YtbmfcedndbgpoaaGreatNext
namespace Go.Proofs.YtbmfcedndbgpoaaGreat
open Go.RowKit Go.Deep
set_option linter.unusedVariables false
theorem squareW_ref (a b c : Wd) : (squareW a b c).v = refNorm a.v b.v c.v := by
  show addI (addI (mulI a.v a.v) (mulI b.v b.v)) (mulI c.v c.v) = _
  unfold addI mulI refNorm sqP
  generalize a.v * a.v = x
  generalize b.v * b.v = y
  generalize c.v * c.v = z
  unfold wrap32
  omega
theorem within_inside (a b c : Wd) (lo hi : Int) (h0 : 0 ≤ lo ∧ lo ≤ 2147483647) (h1 : 0 ≤ hi ∧ hi ≤ 2147483647) :
    inside lo hi a.v b.v c.v = decide ((withinW (squareW a b c) (kW lo) (kW hi)).v ≠ 0) := by
  have e := squareW_ref a b c
  have k0 : (kW lo).v = lo := kW_v ⟨by omega, by omega⟩
  have k1 : (kW hi).v = hi := kW_v ⟨by omega, by omega⟩
  have hw : (withinW (squareW a b c) (kW lo) (kW hi)).v = subI (orI (ltuI (squareW a b c).v (kW lo).v) (ltuI (kW hi).v (squareW a b c).v)) (kW 1).v := rfl
  rw [hw, e, k0, k1]
  unfold inside ltuI
  have m0 : lo % 4294967296 = lo := by omega
  have m1 : hi % 4294967296 = hi := by omega
  rw [m0, m1]
  generalize refNorm a.v b.v c.v % 4294967296 = p
  by_cases u : p < lo <;> by_cases v : hi < p
  · rw [if_pos u, if_pos v, show subI (orI 1 1) (kW 1).v = 0 by decide +kernel]; simp; omega
  · rw [if_pos u, if_neg v, show subI (orI 1 0) (kW 1).v = 0 by decide +kernel]; simp; omega
  · rw [if_neg u, if_pos v, show subI (orI 0 1) (kW 1).v = 0 by decide +kernel]; simp; omega
  · rw [if_neg u, if_neg v, show subI (orI 0 0) (kW 1).v = -1 by decide +kernel]; simp; omega
theorem accel_gate (a b c : Wd) : inside 16777216 150994944 a.v b.v c.v = decide ((sensedA a b c).v ≠ 0) := within_inside a b c _ _ (by omega) (by omega)
theorem mag_gate (a b c : Wd) : inside 1000000 400000000 a.v b.v c.v = decide ((sensedM a b c).v ≠ 0) := within_inside a b c _ _ (by omega) (by omega)
end Go.Proofs.YtbmfcedndbgpoaaGreat
