/- The bounds of all angles, and the contrary quaternion. -/
import Derived.Test.YtbmfcedndbgpoaaEulerLaw
namespace Go.Proofs.Ytbmfcedndbgpoaa
open Go.RowKit
set_option linter.unusedVariables false
theorem nW_ok (a : Wd) : In32 (wrap32 (-a.v)) := in_wrap _
/-- A word turned round, as Go does. -/
def nW (a : Wd) : Wd := ⟨wrap32 (-a.v), nW_ok a⟩
theorem nW_v {a : Wd} (h : -2147483648 < a.v) : (nW a).v = -a.v := by
  have := a.ok
  unfold In32 at this
  show wrap32 (-a.v) = _
  unfold wrap32
  omega
theorem mulq_nn {a b : Wd} (ha : -2147483648 < a.v) (hb : -2147483648 < b.v) : mulqW (nW a) (nW b) = mulqW a b := by
  apply Wd.ext_
  show mulqI (nW a).v (nW b).v = mulqI a.v b.v
  rw [nW_v ha, nW_v hb]
  unfold mulqI
  rw [Int.neg_mul_neg]
theorem angles_contrary {a b c d : Wd} (ha : -2147483648 < a.v) (hb : -2147483648 < b.v) (hc : -2147483648 < c.v) (hd : -2147483648 < d.v) :
    anglesW (nW a) (nW b) (nW c) (nW d) = anglesW a b c d ∧ lockedW (nW a) (nW b) (nW c) (nW d) = lockedW a b c d := by
  have e1 : anglesY (nW a) (nW b) (nW c) (nW d) = anglesY a b c d := by unfold anglesY; rw [mulq_nn ha hb, mulq_nn hc hd]
  have e2 : anglesX (nW a) (nW b) (nW c) (nW d) = anglesX a b c d := by unfold anglesX; rw [mulq_nn hb hb, mulq_nn hc hc]
  have e3 : anglesS (nW a) (nW b) (nW c) (nW d) = anglesS a b c d := by unfold anglesS; rw [mulq_nn ha hc, mulq_nn hd hb]
  have e4 : anglesU (nW a) (nW b) (nW c) (nW d) = anglesU a b c d := by unfold anglesU; rw [mulq_nn ha hd, mulq_nn hb hc]
  have e5 : anglesV (nW a) (nW b) (nW c) (nW d) = anglesV a b c d := by unfold anglesV; rw [mulq_nn hc hc, mulq_nn hd hd]
  have e6 : anglesR (nW a) (nW b) (nW c) (nW d) = anglesR a b c d := by unfold anglesR; rw [e1, e2]
  constructor
  · unfold anglesW; rw [e1, e2, e3, e4, e5, e6]
  · unfold lockedW; rw [e3]
/-- A product of two parts, not cut. -/
theorem m_is {a b : Wd} (ha : -1073741857 ≤ a.v ∧ a.v ≤ 1073741857) (hb : -1073741857 ≤ b.v ∧ b.v ≤ 1073741857) : -536870912 ≤ 1073741824 * (mulqW a b).v - a.v * b.v ∧ 1073741824 * (mulqW a b).v - a.v * b.v ≤ 536870912 ∧ -1073741891 ≤ (mulqW a b).v ∧ (mulqW a b).v ≤ 1073741891 := by
  have h := mul_bd ha hb
  rw [mulq_is (by omega)]
  generalize a.v * b.v = P at *
  omega
/-- Each part of a quaternion of the norm 1. -/
theorem isQ_parts {a b c d : Wd} (h : IsQ a b c d) : (-1073741857 ≤ a.v ∧ a.v ≤ 1073741857) ∧ (-1073741857 ≤ b.v ∧ b.v ≤ 1073741857) ∧ (-1073741857 ≤ c.v ∧ c.v ≤ 1073741857) ∧ (-1073741857 ≤ d.v ∧ d.v ≤ 1073741857) := by
  obtain ⟨_, _, _, _, n1, n0⟩ := h
  have s0 := sq_nonneg a.v
  have s1 := sq_nonneg b.v
  have s2 := sq_nonneg c.v
  have s3 := sq_nonneg d.v
  exact ⟨abs_of_sq (by decide) (by omega), abs_of_sq (by decide) (by omega), abs_of_sq (by decide) (by omega), abs_of_sq (by decide) (by omega)⟩
/-- Two products, together. -/
theorem two_is {x y : Int} {a b c d n : Int} (h : a * a + b * b + c * c + d * d = n) (hn : n ≤ 1152921573326323712) : -576460786663161856 ≤ a * b + c * d ∧ a * b + c * d ≤ 576460786663161856 := by
  have p := sq_nonneg (a + b)
  have q := sq_nonneg (a - b)
  have p' := sq_nonneg (c + d)
  have q' := sq_nonneg (c - d)
  have e1 : (a + b) * (a + b) = a * a + b * b + 2 * (a * b) := by grind
  have e2 : (a - b) * (a - b) = a * a + b * b - 2 * (a * b) := by grind
  have e3 : (c + d) * (c + d) = c * c + d * d + 2 * (c * d) := by grind
  have e4 : (c - d) * (c - d) = c * c + d * d - 2 * (c * d) := by grind
  omega
/-- The parts that angles are of. -/
theorem parts_is {a b c d : Wd} (h : IsQ a b c d) : ∃ y x s : Int, (anglesY a b c d).v = y ∧ (anglesX a b c d).v = x ∧ (anglesS a b c d).v = s ∧
    (-1073741824 ≤ 1073741824 * y - (a.v * b.v + c.v * d.v) ∧ 1073741824 * y - (a.v * b.v + c.v * d.v) ≤ 1073741824) ∧
    (-1073741824 ≤ 1073741824 * (536870912 - x) - (b.v * b.v + c.v * c.v) ∧ 1073741824 * (536870912 - x) - (b.v * b.v + c.v * c.v) ≤ 1073741824) ∧
    (-1073741824 ≤ 1073741824 * s - (a.v * c.v - d.v * b.v) ∧ 1073741824 * s - (a.v * c.v - d.v * b.v) ≤ 1073741824) ∧
    (-536870947 ≤ y ∧ y ≤ 536870947) ∧ (-536870979 ≤ x ∧ x ≤ 536870915) ∧ (-536870947 ≤ s ∧ s ≤ 536870947) := by
  obtain ⟨pa, pb, pc, pd⟩ := isQ_parts h
  obtain ⟨_, _, _, _, n1, n0⟩ := h
  have s0 := sq_nonneg a.v
  have s1 := sq_nonneg b.v
  have s2 := sq_nonneg c.v
  have s3 := sq_nonneg d.v
  obtain ⟨u1, u2, u3, u4⟩ := m_is pa pb
  obtain ⟨v1, v2, v3, v4⟩ := m_is pc pd
  obtain ⟨w1, w2, w3, w4⟩ := m_is pb pb
  obtain ⟨x1, x2, x3, x4⟩ := m_is pc pc
  obtain ⟨y1, y2, y3, y4⟩ := m_is pa pc
  obtain ⟨z1, z2, z3, z4⟩ := m_is pd pb
  have t1 := two_is (x := 0) (y := 0) (a := a.v) (b := b.v) (c := c.v) (d := d.v) rfl (by omega)
  have t2 := two_is (x := 0) (y := 0) (a := a.v) (b := c.v) (c := d.v) (d := -b.v) (by rw [Int.neg_mul_neg]) (by omega)
  have e2 : a.v * c.v + d.v * -b.v = a.v * c.v - d.v * b.v := by rw [Int.mul_neg]; omega
  rw [e2] at t2
  have kk : (kW 536870912).v = 536870912 := kW_v (by decide)
  have ey : (anglesY a b c d).v = (mulqW a b).v + (mulqW c d).v := adds_is (by omega)
  have es : (anglesS a b c d).v = (mulqW a c).v - (mulqW d b).v := subs_is (by omega)
  have ex1 : (subsW (kW 536870912) (mulqW b b)).v = 536870912 - (mulqW b b).v := by rw [subs_is (by rw [kk]; omega), kk]
  have ex : (anglesX a b c d).v = 536870912 - (mulqW b b).v - (mulqW c c).v := by
    show (subsW (subsW (kW 536870912) (mulqW b b)) (mulqW c c)).v = _
    rw [subs_is (by rw [ex1]; omega), ex1]
  refine ⟨_, _, _, ey, ex, es, ?_⟩
  omega
/-- All angles' bounds. -/
theorem euler_law {a b c d : Wd} (h : IsQ a b c d) :
    (-1686629929 ≤ (anglesW a b c d).a.v ∧ (anglesW a b c d).a.v ≤ 1686629929) ∧ (-843315073 ≤ (anglesW a b c d).b.v ∧ (anglesW a b c d).b.v ≤ 843315073) := by
  obtain ⟨y, x, s, ey, ex, es, hy, hx, hs, by', bx, bs⟩ := parts_is h
  obtain ⟨_, _, _, _, n1, n0⟩ := h
  constructor
  · -- roll
    show -1686629929 ≤ (angleW (anglesY a b c d) (anglesX a b c d)).v ∧ (angleW (anglesY a b c d) (anglesX a b c d)).v ≤ 1686629929
    by_cases h0 : (anglesX a b c d).v ≠ 0 ∨ (anglesY a b c d).v ≠ 0
    · obtain ⟨r, er, _, r0, r1, _⟩ := angle_near (y := anglesY a b c d) (x := anglesX a b c d) (by omega) (by omega) h0
      rw [er]
      exact ⟨r0, r1⟩
    · have e1 : anglesX a b c d = kW 0 := Wd.ext_ (by
        rw [kW_v (by decide)]
        exact Classical.byContradiction (fun h => h0 (.inl h)))
      have e2 : anglesY a b c d = kW 0 := Wd.ext_ (by
        rw [kW_v (by decide)]
        exact Classical.byContradiction (fun h => h0 (.inr h)))
      rw [e1, e2]
      decide +kernel
  · -- pitch
    show -843315073 ≤ (angleW (anglesS a b c d) (anglesR a b c d)).v ∧ (angleW (anglesS a b c d) (anglesR a b c d)).v ≤ 843315073
    have hN : ∃ N : Wd, normW (anglesX a b c d) [anglesY a b c d] = N ∧ 0 ≤ N.v ∧ (N.v < 256 → -524803 ≤ x ∧ x ≤ 524803 ∧ -524803 ≤ y ∧ y ≤ 524803) := by
      refine ⟨_, rfl, ?_⟩
      have bX := mul_bd (a := x) (b := x) (A := 536870979) (B := 536870979) (by omega) (by omega)
      have bY := mul_bd (a := y) (b := y) (A := 536870979) (B := 536870979) (by omega) (by omega)
      obtain ⟨p0, p1, p2⟩ := sq_is (g := anglesX a b c d) (by rw [ex]; omega)
      obtain ⟨q0, q1, q2⟩ := sq_is (g := anglesY a b c d) (by rw [ey]; omega)
      rw [ex] at p1 p2
      rw [ey] at q1 q2
      have e : (normW (anglesX a b c d) [anglesY a b c d]).v = (mulqW (anglesX a b c d) (anglesX a b c d)).v + (mulqW (anglesY a b c d) (anglesY a b c d)).v := adds_is (by omega)
      rw [e]
      refine ⟨by omega, fun hlt => ?_⟩
      have hX := abs_of_sq (A := x) (M := 524803) (by decide) (by omega)
      have hY := abs_of_sq (A := y) (M := 524803) (by decide) (by omega)
      omega
    obtain ⟨N, eN, N0, N1⟩ := hN
    have eR : anglesR a b c d = sqrtW N := by unfold anglesR; rw [eN]
    rw [eR]
    have hR := sqrt_nonneg N0
    have okR := (sqrtW N).ok
    unfold In32 at okR
    by_cases h0 : (sqrtW N).v ≠ 0 ∨ (anglesS a b c d).v ≠ 0
    · obtain ⟨r, er, _, _, _, r2⟩ := angle_near (y := anglesS a b c d) (x := sqrtW N) (by omega) (by omega) h0
      rw [er]
      exact r2 hR
    · exfalso
      have z1 : (sqrtW N).v = 0 := Classical.byContradiction (fun h => h0 (.inl h))
      have z2 : s = 0 := by rw [← es]; exact Classical.byContradiction (fun h => h0 (.inr h))
      have hN256 : N.v < 256 := Int.not_le.1 (fun h => by have := sqrt_pos h; omega)
      obtain ⟨x0, x1, y0, y1⟩ := N1 hN256
      subst z2
      -- the identity
      obtain ⟨A, hA⟩ : ∃ A, A = a.v * c.v - d.v * b.v := ⟨_, rfl⟩
      obtain ⟨B, hB⟩ : ∃ B, B = a.v * b.v + c.v * d.v := ⟨_, rfl⟩
      obtain ⟨C, hC⟩ : ∃ C, C = b.v * b.v + c.v * c.v := ⟨_, rfl⟩
      obtain ⟨E, hE⟩ : ∃ E, E = a.v * a.v + d.v * d.v := ⟨_, rfl⟩
      have id4 : A * A + B * B = E * C := by rw [hA, hB, hC, hE]; clear hA hB hC hE hy hx hs n1 n0; grind
      rw [← hA] at hs
      rw [← hB] at hy
      rw [← hC] at hx
      have nE : a.v * a.v + b.v * b.v + c.v * c.v + d.v * d.v = E + C := by rw [hC, hE]; omega
      rw [nE] at n0 n1
      have qA := mul_bd (a := A) (b := A) (A := 1073741824) (B := 1073741824) (by omega) (by omega)
      have qB := mul_bd (a := B) (b := B) (A := 563600000000000) (B := 563600000000000) (by omega) (by omega)
      have qC : 500000000000000000 ≤ C := by omega
      have qE : 500000000000000000 ≤ E := by omega
      have : 500000000000000000 * 500000000000000000 ≤ E * C := Int.mul_le_mul qE qC (by decide) (by omega)
      omega
end Go.Proofs.Ytbmfcedndbgpoaa
