/- What a shut gate lets through: nothing. -/
import Derived.Test.YtbmfcedndbgpoaaGreatGateBits
import Derived.Test.YtbmfcedndbgpoaaGreatQuietLaw
namespace Go.Proofs.YtbmfcedndbgpoaaGreat
open Go.RowKit Go.Deep
set_option linter.unusedVariables false
theorem zero_of {x : Wd} (h : x.v = 0) : x = Z0 := Wd.ext_ h
theorem part_free (q r e f g h : Wd) (hg : g.v = 0) (hh : h.v = 0) : partW q r e g = partW q r f h := by
  rw [zero_of hg, zero_of hh]
  unfold partW
  simp only [q_and]
theorem down_free (P N M : Q4) (g h : Wd) (hg : g.v = 0) (hh : h.v = 0) : downOf P N g = downOf P M h := by
  rw [zero_of hg, zero_of hh]
  unfold downOf
  simp only [q_and]
theorem sensed_mag (q0 q1 q2 q3 g0 g1 g2 a0 a1 a2 m0 m1 m2 n0 n1 n2 : Wd) (h : (sensedM m0 m1 m2).v = 0) (k : (sensedM n0 n1 n2).v = 0) :
    sensedW q0 q1 q2 q3 g0 g1 g2 a0 a1 a2 m0 m1 m2 = sensedW q0 q1 q2 q3 g0 g1 g2 a0 a1 a2 n0 n1 n2 := by
  unfold sensedW sensedE
  rw [down_free _ _ (sensedN q0 q1 q2 q3 n0 n1 n2) _ _ h k]
theorem sensed_acc (q0 q1 q2 q3 g0 g1 g2 a0 a1 a2 m0 m1 m2 b0 b1 b2 n0 n1 n2 : Wd) (h : (sensedA a0 a1 a2).v = 0) (k : (sensedA b0 b1 b2).v = 0) :
    sensedW q0 q1 q2 q3 g0 g1 g2 a0 a1 a2 m0 m1 m2 = sensedW q0 q1 q2 q3 g0 g1 g2 b0 b1 b2 n0 n1 n2 := by
  unfold sensedW stepOf
  rw [part_free q0 _ _ (sensedE q0 q1 q2 q3 b0 b1 b2 n0 n1 n2).a _ _ h k, part_free q1 _ _ (sensedE q0 q1 q2 q3 b0 b1 b2 n0 n1 n2).b _ _ h k, part_free q2 _ _ (sensedE q0 q1 q2 q3 b0 b1 b2 n0 n1 n2).c _ _ h k, part_free q3 _ _ (sensedE q0 q1 q2 q3 b0 b1 b2 n0 n1 n2).d _ _ h k]
end Go.Proofs.YtbmfcedndbgpoaaGreat
