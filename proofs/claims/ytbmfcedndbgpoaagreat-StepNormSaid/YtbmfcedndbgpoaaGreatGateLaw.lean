/- What gates reckon, in plain numbers. -/
import Derived.Test.YtbmfcedndbgpoaaGreatStill
namespace Go.Proofs.YtbmfcedndbgpoaaGreat
open Go.RowKit Go.Deep
set_option linter.unusedVariables false
theorem or00 : orI 0 0 = 0 := by decide +kernel
theorem or01 : orI 0 1 = 1 := by decide +kernel
theorem or10 : orI 1 0 = 1 := by decide +kernel
theorem or11 : orI 1 1 = 1 := by decide +kernel
theorem gateB_spec (n : Wd) (lo hi : Int) (h0 : 0 ≤ lo) (h1 : lo ≤ 2147483647) (h2 : 0 ≤ hi) (h3 : hi ≤ 2147483647) :
    gateB n lo hi = decide (lo ≤ n.v % 4294967296 ∧ n.v % 4294967296 ≤ hi) := by
  unfold gateB withinW
  show (subI (orI (ltuI n.v (kW lo).v) (ltuI (kW hi).v n.v)) (kW 1).v != 0) = _
  rw [kW_v (show In32 lo from ⟨by omega, by omega⟩), kW_v (show In32 hi from ⟨by omega, by omega⟩), kW_v (show In32 1 by decide)]
  unfold ltuI
  have e1 : lo % 4294967296 = lo := by omega
  have e2 : hi % 4294967296 = hi := by omega
  rw [e1, e2]
  by_cases a : n.v % 4294967296 < lo <;> by_cases b : hi < n.v % 4294967296
  · rw [if_pos a, if_pos b, or11, decide_eq_false (by omega)]; decide +kernel
  · rw [if_pos a, if_neg b, or10, decide_eq_false (by omega)]; decide +kernel
  · rw [if_neg a, if_pos b, or01, decide_eq_false (by omega)]; decide +kernel
  · rw [if_neg a, if_neg b, or00, decide_eq_true (by omega)]; decide +kernel
theorem square_short (a b c : Wd) (ha : -32768 ≤ a.v ∧ a.v ≤ 32767) (hb : -32768 ≤ b.v ∧ b.v ≤ 32767) (hc : -32768 ≤ c.v ∧ c.v ≤ 32767) :
    (squareW a b c).v % 4294967296 = a.v * a.v + b.v * b.v + c.v * c.v ∧ 0 ≤ a.v * a.v ∧ a.v * a.v ≤ 1073741824 ∧ 0 ≤ b.v * b.v ∧ b.v * b.v ≤ 1073741824 ∧ 0 ≤ c.v * c.v ∧ c.v * c.v ≤ 1073741824 := by
  have sq : ∀ x : Int, -32768 ≤ x ∧ x ≤ 32767 → 0 ≤ x * x ∧ x * x ≤ 1073741824 := fun x hx => by
    have h : (x * x).natAbs ≤ 32768 * 32768 := by rw [Int.natAbs_mul]; exact Nat.mul_le_mul (by omega) (by omega)
    have h2 : 0 ≤ x * x := by
      rcases Int.le_total 0 x with h | h
      · exact Int.mul_nonneg h h
      · exact Int.mul_nonneg_of_nonpos_of_nonpos h h
    omega
  have h1 := sq _ ha
  have h2 := sq _ hb
  have h3 := sq _ hc
  refine ⟨?_, h1.1, h1.2, h2.1, h2.2, h3.1, h3.2⟩
  show addI (addI (mulI a.v a.v) (mulI b.v b.v)) (mulI c.v c.v) % 4294967296 = _
  unfold addI mulI
  generalize a.v * a.v = x at *
  generalize b.v * b.v = y at *
  generalize c.v * c.v = z at *
  unfold wrap32
  omega
theorem mul_neg (a : Wd) : mulW ⟨wrap32 (-a.v), in_wrap _⟩ ⟨wrap32 (-a.v), in_wrap _⟩ = mulW a a := by
  apply Wd.ext_
  show mulI (wrap32 (-a.v)) (wrap32 (-a.v)) = mulI a.v a.v
  have h := a.ok
  unfold In32 at h
  by_cases h1 : a.v = -2147483648
  · rw [h1]; decide +kernel
  · rw [show wrap32 (-a.v) = -a.v by unfold wrap32; omega]
    unfold mulI
    rw [Int.neg_mul_neg]
theorem add_rot (x y z : Wd) : addW (addW y z) x = addW (addW x y) z := by
  apply Wd.ext_
  show addI (addI y.v z.v) x.v = addI (addI x.v y.v) z.v
  unfold addI wrap32
  omega
theorem square_rot (a b c : Wd) : squareW b c a = squareW a b c := add_rot _ _ _
end Go.Proofs.YtbmfcedndbgpoaaGreat
