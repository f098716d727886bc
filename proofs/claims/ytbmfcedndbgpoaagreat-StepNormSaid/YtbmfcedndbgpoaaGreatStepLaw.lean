/- A step's norm stays near 1, no part goes far, and who stays, stays. -/
import Derived.Test.YtbmfcedndbgpoaaGreatNormLaw
namespace Go.Proofs.YtbmfcedndbgpoaaGreat
open Go.RowKit Go.Deep
set_option linter.unusedVariables false
/-- A word within bounds. -/
def clipW (x : Wd) : Wd := minW (maxW x (kW (-134217728))) (kW 134217728)
/-- A quaternion's part behind a step, ahead of Unit. -/
def partW (q r b ga : Wd) : Wd := addsW q (clipW (subsW r (andW (downW b 8) ga)))
theorem clip_bd (x : Wd) : -134217728 ≤ (clipW x).v ∧ (clipW x).v ≤ 134217728 := by
  show -134217728 ≤ minI (maxI x.v (kW (-134217728)).v) (kW 134217728).v ∧ minI (maxI x.v (kW (-134217728)).v) (kW 134217728).v ≤ 134217728
  rw [kW_v (show In32 (-134217728) by decide), kW_v (show In32 134217728 by decide)]
  unfold minI maxI
  constructor <;> (repeat' split) <;> omega
theorem part_far {q : Wd} (hq : -1342177280 ≤ q.v ∧ q.v ≤ 1342177280) (r b ga : Wd) : ∃ e : Int, (partW q r b ga).v = q.v + e ∧ -134217728 ≤ e ∧ e ≤ 134217728 := by
  have h := clip_bd (subsW r (andW (downW b 8) ga))
  exact ⟨_, adds_is (by omega), h⟩
/-- Near to the norm 1. -/
def IsQ (a b c d : Wd) : Prop := (-1342177280 ≤ a.v ∧ a.v ≤ 1342177280) ∧ (-1342177280 ≤ b.v ∧ b.v ≤ 1342177280) ∧ (-1342177280 ≤ c.v ∧ c.v ≤ 1342177280) ∧ (-1342177280 ≤ d.v ∧ d.v ≤ 1342177280) ∧
  a.v * a.v + b.v * b.v + c.v * c.v + d.v * d.v - 1152921504606846976 < 68719476736 ∧ -68719476736 < a.v * a.v + b.v * b.v + c.v * c.v + d.v * d.v - 1152921504606846976
theorem sq_le {e M : Int} (h : -M ≤ e ∧ e ≤ M) : e * e ≤ M * M := (mul_bd h h).2
/-- The squares of what is ahead of Unit. -/
theorem ahead_bd {q0 q1 q2 q3 e0 e1 e2 e3 : Int} (h : q0 * q0 + q1 * q1 + q2 * q2 + q3 * q3 - 1152921504606846976 < 68719476736) (h' : -68719476736 < q0 * q0 + q1 * q1 + q2 * q2 + q3 * q3 - 1152921504606846976)
    (b0 : -134217728 ≤ e0 ∧ e0 ≤ 134217728) (b1 : -134217728 ≤ e1 ∧ e1 ≤ 134217728) (b2 : -134217728 ≤ e2 ∧ e2 ≤ 134217728) (b3 : -134217728 ≤ e3 ∧ e3 ≤ 134217728) :
    648518294000000000 ≤ (q0 + e0) * (q0 + e0) + (q1 + e1) * (q1 + e1) + (q2 + e2) * (q2 + e2) + (q3 + e3) * (q3 + e3) ∧ (q0 + e0) * (q0 + e0) + (q1 + e1) * (q1 + e1) + (q2 + e2) * (q2 + e2) + (q3 + e3) * (q3 + e3) ≤ 1801440000000000000 := by
  have k0 := sq_le b0
  have k1 := sq_le b1
  have k2 := sq_le b2
  have k3 := sq_le b3
  have lo : ∀ q e : Int, 3 * (q * q) ≤ 4 * ((q + e) * (q + e)) + 12 * (e * e) := fun q e => by
    have := sq_nonneg (q + 4 * e)
    have t : (q + 4 * e) * (q + 4 * e) = 4 * ((q + e) * (q + e)) + 12 * (e * e) - 3 * (q * q) := by grind
    omega
  have hi : ∀ q e : Int, 4 * ((q + e) * (q + e)) ≤ 5 * (q * q) + 20 * (e * e) := fun q e => by
    have := sq_nonneg (q - 4 * e)
    have t : (q - 4 * e) * (q - 4 * e) = 5 * (q * q) + 20 * (e * e) - 4 * ((q + e) * (q + e)) := by grind
    omega
  have l0 := lo q0 e0
  have l1 := lo q1 e1
  have l2 := lo q2 e2
  have l3 := lo q3 e3
  have r0 := hi q0 e0
  have r1 := hi q1 e1
  have r2 := hi q2 e2
  have r3 := hi q3 e3
  clear lo hi
  generalize (q0 + e0) * (q0 + e0) = x0 at *
  generalize (q1 + e1) * (q1 + e1) = x1 at *
  generalize (q2 + e2) * (q2 + e2) = x2 at *
  generalize (q3 + e3) * (q3 + e3) = x3 at *
  generalize q0 * q0 = y0 at *
  generalize q1 * q1 = y1 at *
  generalize q2 * q2 = y2 at *
  generalize q3 * q3 = y3 at *
  generalize e0 * e0 = z0 at *
  generalize e1 * e1 = z1 at *
  generalize e2 * e2 = z2 at *
  generalize e3 * e3 = z3 at *
  omega
/-- One part goes no farther than 3/8 and a little. -/
theorem far_bd {k n q e U : Int} (hk : 0 ≤ k) (n0 : 648518294000000000 ≤ n) (n1 : n ≤ 1801440000000000000) (k0 : 1329227995784915872903807060280344576 - 60700000000000000000000000000 ≤ k * k * n) (k1 : k * k * n ≤ 1329227995784915872903807060280344576 + 60700000000000000000000000000)
    (hv : (q + e) * (q + e) ≤ n) (he : -134217728 ≤ e ∧ e ≤ 134217728) (u0 : -1073741824 ≤ 1073741824 * U - k * (q + e)) (u1 : 1073741824 * U - k * (q + e) ≤ 1073741824) :
    -537919488 < U - q ∧ U - q < 537919488 := by
  have a1 : k ≤ 1432000000 := by
    refine Int.not_lt.1 (fun hc => ?_)
    have h1 : 1432000000 * 1432000000 ≤ k * k := Int.mul_le_mul (by omega) (by omega) (by omega) hk
    have h2 : 1432000000 * 1432000000 * 648518294000000000 ≤ k * k * n := Int.mul_le_mul h1 n0 (by omega) (by omega)
    omega
  have a0 : 858990000 ≤ k := by
    refine Int.not_lt.1 (fun hc => ?_)
    have h1 : k * k ≤ 858990000 * 858990000 := Int.mul_le_mul (by omega) (by omega) hk (by omega)
    have h2 : k * k * n ≤ 858990000 * 858990000 * 1801440000000000000 := Int.mul_le_mul h1 n1 (by omega) (by omega)
    omega
  have hvv := abs_of_sq (A := q + e) (M := 1342177400) (by decide) (by omega)
  have hkv : -1152922000000000000 ≤ k * (q + e) ∧ k * (q + e) ≤ 1152922000000000000 := by
    apply abs_of_sq (by decide)
    have h1 : k * k * ((q + e) * (q + e)) ≤ k * k * n := Int.mul_le_mul_of_nonneg_left hv (Int.mul_nonneg hk hk)
    have e1 : k * (q + e) * (k * (q + e)) = k * k * ((q + e) * (q + e)) := by
      clear h1 hvv hv u0 u1 k0 k1
      grind
    rw [e1]
    omega
  generalize hV : q + e = V at *
  rcases Int.le_total 1073741824 k with h | h
  · have p := ab (A := k - 1073741824) hvv
    rw [Int.natAbs_of_nonneg (by omega)] at p
    -- 4 (k - 2^30) is at most k and a little
    have q1 : ∃ j, j = 1432000000 - k ∧ 0 ≤ j := ⟨_, rfl, by omega⟩
    have ee : (k - 1073741824) * V = k * V - 1073741824 * V := Int.sub_mul _ _ _
    rcases Int.le_total 0 V with hV0 | hV0
    · have s1 : 0 ≤ (k - 1073741824) * V := Int.mul_nonneg (by omega) hV0
      have s2 : 0 ≤ (1432000000 - k) * V := Int.mul_nonneg (by omega) hV0
      have s3 : (1432000000 - k) * V = 1432000000 * V - k * V := Int.sub_mul _ _ _
      generalize k * V = P at *
      omega
    · have s1 : (k - 1073741824) * V ≤ 0 := Int.mul_nonpos_of_nonneg_of_nonpos (by omega) hV0
      have s2 : (1432000000 - k) * V ≤ 0 := Int.mul_nonpos_of_nonneg_of_nonpos (by omega) hV0
      have s3 : (1432000000 - k) * V = 1432000000 * V - k * V := Int.sub_mul _ _ _
      generalize k * V = P at *
      omega
  · have ee : (1073741824 - k) * V = 1073741824 * V - k * V := Int.sub_mul _ _ _
    have p := ab (A := 1073741824 - k) hvv
    rw [Int.natAbs_of_nonneg (by omega)] at p
    generalize k * V = P at *
    omega
/-- A step: the norm stays near 1, and no part goes far. -/
theorem step_law (q0 q1 q2 q3 r0 r1 r2 r3 b0 b1 b2 b3 ga : Wd) (hq : IsQ q0 q1 q2 q3) :
    ∃ U0 U1 U2 U3 : Int, (unitW (partW q0 r0 b0 ga) (partW q1 r1 b1 ga) (partW q2 r2 b2 ga) (partW q3 r3 b3 ga)).a.v = U0 ∧ (unitW (partW q0 r0 b0 ga) (partW q1 r1 b1 ga) (partW q2 r2 b2 ga) (partW q3 r3 b3 ga)).b.v = U1 ∧
      (unitW (partW q0 r0 b0 ga) (partW q1 r1 b1 ga) (partW q2 r2 b2 ga) (partW q3 r3 b3 ga)).c.v = U2 ∧ (unitW (partW q0 r0 b0 ga) (partW q1 r1 b1 ga) (partW q2 r2 b2 ga) (partW q3 r3 b3 ga)).d.v = U3 ∧
      (-1073741952 ≤ U0 ∧ U0 ≤ 1073741952) ∧ (-1073741952 ≤ U1 ∧ U1 ≤ 1073741952) ∧ (-1073741952 ≤ U2 ∧ U2 ≤ 1073741952) ∧ (-1073741952 ≤ U3 ∧ U3 ≤ 1073741952) ∧
      U0 * U0 + U1 * U1 + U2 * U2 + U3 * U3 - 1152921504606846976 < 68719476736 ∧ -68719476736 < U0 * U0 + U1 * U1 + U2 * U2 + U3 * U3 - 1152921504606846976 ∧
      (-537919488 < U0 - q0.v ∧ U0 - q0.v < 537919488) ∧ (-537919488 < U1 - q1.v ∧ U1 - q1.v < 537919488) ∧ (-537919488 < U2 - q2.v ∧ U2 - q2.v < 537919488) ∧ (-537919488 < U3 - q3.v ∧ U3 - q3.v < 537919488) := by
  obtain ⟨h0, h1, h2, h3, n1, n0⟩ := hq
  obtain ⟨e0, p0, a0⟩ := part_far h0 r0 b0 ga
  obtain ⟨e1, p1, a1⟩ := part_far h1 r1 b1 ga
  obtain ⟨e2, p2, a2⟩ := part_far h2 r2 b2 ga
  obtain ⟨e3, p3, a3⟩ := part_far h3 r3 b3 ga
  have hb := ahead_bd n1 n0 a0 a1 a2 a3
  generalize partW q0 r0 b0 ga = x0 at *
  generalize partW q1 r1 b1 ga = x1 at *
  generalize partW q2 r2 b2 ga = x2 at *
  generalize partW q3 r3 b3 ga = x3 at *
  obtain ⟨k, U0, U1, U2, U3, hk, g0, g1, g2, g3, f0, f1, f2, f3, k0, k1, s0, s1⟩ := unit_law x0 x1 x2 x3 ((q0.v + e0) * (q0.v + e0) + (q1.v + e1) * (q1.v + e1) + (q2.v + e2) * (q2.v + e2) + (q3.v + e3) * (q3.v + e3)) (by rw [p0, p1, p2, p3]) (by omega) (by omega)
  rw [p0] at f0
  rw [p1] at f1
  rw [p2] at f2
  rw [p3] at f3
  have y0 := sq_nonneg (q0.v + e0)
  have y1 := sq_nonneg (q1.v + e1)
  have y2 := sq_nonneg (q2.v + e2)
  have y3 := sq_nonneg (q3.v + e3)
  have z0 := sq_nonneg U0
  have z1 := sq_nonneg U1
  have z2 := sq_nonneg U2
  have z3 := sq_nonneg U3
  have w0 := far_bd hk hb.1 hb.2 k0 k1 (by omega) a0 f0.1 f0.2
  have w1 := far_bd hk hb.1 hb.2 k0 k1 (by omega) a1 f1.1 f1.2
  have w2 := far_bd hk hb.1 hb.2 k0 k1 (by omega) a2 f2.1 f2.2
  have w3 := far_bd hk hb.1 hb.2 k0 k1 (by omega) a3 f3.1 f3.2
  clear k0 k1 f0 f1 f2 f3 y0 y1 y2 y3 hb
  exact ⟨U0, U1, U2, U3, g0, g1, g2, g3, small (S := U0 * U0 + U1 * U1 + U2 * U2 + U3 * U3) (by omega) (by omega), small (S := U0 * U0 + U1 * U1 + U2 * U2 + U3 * U3) (by omega) (by omega), small (S := U0 * U0 + U1 * U1 + U2 * U2 + U3 * U3) (by omega) (by omega), small (S := U0 * U0 + U1 * U1 + U2 * U2 + U3 * U3) (by omega) (by omega), by omega, by omega, w0, w1, w2, w3⟩
/-- Who stays: Unit of what is of the norm 1 is as it was, but for 64. -/
theorem stay_law (c s : Wd) (hq : IsQ c (kW 0) (kW 0) s) :
    ∃ U0 U3 : Int, (unitW c (kW 0) (kW 0) s).a.v = U0 ∧ (unitW c (kW 0) (kW 0) s).b.v = 0 ∧ (unitW c (kW 0) (kW 0) s).c.v = 0 ∧ (unitW c (kW 0) (kW 0) s).d.v = U3 ∧
      (-64 ≤ U0 - c.v ∧ U0 - c.v ≤ 64) ∧ (-64 ≤ U3 - s.v ∧ U3 - s.v ≤ 64) := by
  obtain ⟨h0, h1, h2, h3, n1, n0⟩ := hq
  have k0v : (kW 0).v = 0 := kW_v (by decide)
  obtain ⟨k, U0, U1, U2, U3, hk, g0, g1, g2, g3, f0, f1, f2, f3, k0, k1, s0, s1⟩ := unit_law c (kW 0) (kW 0) s _ rfl (by omega) (by omega)
  rw [k0v, Int.mul_zero] at f1 f2
  have y0 := sq_nonneg c.v
  have y3 := sq_nonneg s.v
  rw [k0v] at n0 n1 k0 k1
  have z1 : (unitW c (kW 0) (kW 0) s).b.v = 0 := by
    show wrap32 (satI ((kW 0).v * _ / 1073741824 + (kW 0).v * _ / 536870912 % 2) % 4294967296 * _ % 4294967296) = 0
    rw [k0v, Int.zero_mul]
    rw [show satI (0 / 1073741824 + 0 / 536870912 % 2) % 4294967296 = 0 by decide +kernel, Int.zero_mul]
    decide +kernel
  have z2 : (unitW c (kW 0) (kW 0) s).c.v = 0 := z1
  have kk : 1152921504606846976 - 130000000000 ≤ k * k ∧ k * k ≤ 1152921504606846976 + 130000000000 := by
    generalize c.v * c.v + 0 * 0 + 0 * 0 + s.v * s.v = n at *
    constructor
    · refine Int.not_lt.1 (fun hc => ?_)
      have : k * k * n ≤ (1152921504606846976 - 130000000000) * (1152921504606846976 + 68719476736) := Int.mul_le_mul (by omega) (by omega) (by omega) (by omega)
      omega
    · refine Int.not_lt.1 (fun hc => ?_)
      have : (1152921504606846976 + 130000000000) * (1152921504606846976 - 68719476736) ≤ k * k * n := Int.mul_le_mul (by omega) (by omega) (by omega) (Int.mul_nonneg hk hk)
      omega
  have kb : 1073741824 - 61 ≤ k ∧ k ≤ 1073741824 + 61 := by
    constructor
    · refine Int.not_lt.1 (fun hc => ?_)
      have : k * k ≤ (1073741824 - 62) * (1073741824 - 62) := Int.mul_le_mul (by omega) (by omega) hk (by omega)
      omega
    · refine Int.not_lt.1 (fun hc => ?_)
      have : (1073741824 + 62) * (1073741824 + 62) ≤ k * k := Int.mul_le_mul (by omega) (by omega) (by omega) hk
      omega
  have one : ∀ x U : Int, x * x ≤ 1152921573326323712 → -1073741824 ≤ 1073741824 * U - k * x ∧ 1073741824 * U - k * x ≤ 1073741824 → -64 ≤ U - x ∧ U - x ≤ 64 := by
    intro x U hx hu
    have hxx := abs_of_sq (A := x) (M := 1073741857) (by decide) (by omega)
    have p := ab (A := x) (B := k - 1073741824) (b := 61) (by omega)
    have q : (x.natAbs : Int) ≤ 1073741857 := by omega
    have e : x * (k - 1073741824) = k * x - 1073741824 * x := by
      clear p q hxx hx hu kb kk k0 k1 n0 n1
      grind
    rw [e] at p
    generalize k * x = P at *
    omega
  exact ⟨U0, U3, g0, z1, z2, g3, one _ _ (by omega) f0, one _ _ (by omega) f3⟩
end Go.Proofs.YtbmfcedndbgpoaaGreat
