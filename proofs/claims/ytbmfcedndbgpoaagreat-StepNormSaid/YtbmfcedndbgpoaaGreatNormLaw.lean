/- The norm of what Unit makes is near 1. -/
import Derived.Test.YtbmfcedndbgpoaaGreatRootLaw4
import Derived.Test.YtbmfcedndbgpoaaGreatUnitLaw2
namespace Go.Proofs.YtbmfcedndbgpoaaGreat
open Go.RowKit Go.Deep
set_option linter.unusedVariables false
/-- A quaternion of the norm 1. -/
def unitW (x0 x1 x2 x3 : Wd) : Q4 := ⟨scaledW x0 (rootW (normW x0 [x1, x2, x3])).1 (rootW (normW x0 [x1, x2, x3])).2, scaledW x1 (rootW (normW x0 [x1, x2, x3])).1 (rootW (normW x0 [x1, x2, x3])).2, scaledW x2 (rootW (normW x0 [x1, x2, x3])).1 (rootW (normW x0 [x1, x2, x3])).2, scaledW x3 (rootW (normW x0 [x1, x2, x3])).1 (rootW (normW x0 [x1, x2, x3])).2⟩
theorem kn_bd {n N u z H r s : Int} (hH : H = 1 ∨ H = 2 ∧ 536870912 ≤ u) (h1 : 1073741824 * N = n + s) (hs : -2147483648 ≤ s ∧ s ≤ 2147483648) (h2 : 4 * u = N * (H * H) - r) (hr : 0 ≤ r ∧ r ≤ 3) (hu : 268435456 ≤ u)
    (hd : -48430741160944183193 ≤ 4 * (u * (z * z)) - 1237940039285380274899124224 ∧ 4 * (u * (z * z)) - 1237940039285380274899124224 ≤ 48430741160944183193) :
    1329227995784915872903807060280344576 - 60700000000000000000000000000 ≤ H * z * (H * z) * n ∧ H * z * (H * z) * n ≤ 1329227995784915872903807060280344576 + 60700000000000000000000000000 := by
  have hZ : 0 ≤ z * z := sq_nonneg z
  have e1 : H * z * (H * z) * n = 1073741824 * (4 * (u * (z * z))) + 1073741824 * (r * (z * z)) - H * H * ((z * z) * s) := by
    clear hH hs hr hu hd hZ
    grind
  have t := ab (A := z * z) hs
  rw [Int.natAbs_of_nonneg hZ] at t
  have p0 : 0 ≤ r * (z * z) := Int.mul_nonneg hr.1 hZ
  have p1 : r * (z * z) ≤ 3 * (z * z) := Int.mul_le_mul_of_nonneg_right hr.2 hZ
  rw [e1]
  clear e1 h1 h2
  rcases hH with rfl | ⟨rfl, hu2⟩
  · have q : 268435456 * (z * z) ≤ u * (z * z) := Int.mul_le_mul_of_nonneg_right hu hZ
    generalize z * z * s = T at *
    generalize r * (z * z) = p at *
    generalize u * (z * z) = Q at *
    generalize z * z = Z at *
    omega
  · have q : 536870912 * (z * z) ≤ u * (z * z) := Int.mul_le_mul_of_nonneg_right hu2 hZ
    generalize z * z * s = T at *
    generalize r * (z * z) = p at *
    generalize u * (z * z) = Q at *
    generalize z * z = Z at *
    omega
theorem abs_of_sq {A M : Int} (hM : 0 ≤ M) (h : A * A ≤ M * M) : -M ≤ A ∧ A ≤ M := by
  constructor
  · refine Int.not_lt.1 (fun hc => ?_)
    have : (M + 1) * (M + 1) ≤ (-A) * (-A) := Int.mul_le_mul (by omega) (by omega) (by omega) (by omega)
    rw [Int.neg_mul_neg] at this
    have e : (M + 1) * (M + 1) = M * M + 2 * M + 1 := by grind
    omega
  · refine Int.not_lt.1 (fun hc => ?_)
    have : (M + 1) * (M + 1) ≤ A * A := Int.mul_le_mul (by omega) (by omega) (by omega) (by omega)
    have e : (M + 1) * (M + 1) = M * M + 2 * M + 1 := by grind
    omega
/-- Four parts, rounded. -/
theorem four {A0 A1 A2 A3 B0 B1 B2 B3 U0 U1 U2 U3 N : Int}
    (h0 : 1073741824 * U0 = A0 + B0) (h1 : 1073741824 * U1 = A1 + B1) (h2 : 1073741824 * U2 = A2 + B2) (h3 : 1073741824 * U3 = A3 + B3)
    (b0 : -1073741824 ≤ B0 ∧ B0 ≤ 1073741824) (b1 : -1073741824 ≤ B1 ∧ B1 ≤ 1073741824) (b2 : -1073741824 ≤ B2 ∧ B2 ≤ 1073741824) (b3 : -1073741824 ≤ B3 ∧ B3 ≤ 1073741824)
    (hN : A0 * A0 + A1 * A1 + A2 * A2 + A3 * A3 = N) (hb : N ≤ 1329227995784915872903807060280344576 + 60700000000000000000000000000) :
    N - 5000000000000000000000000000 ≤ 1152921504606846976 * (U0 * U0 + U1 * U1 + U2 * U2 + U3 * U3) ∧ 1152921504606846976 * (U0 * U0 + U1 * U1 + U2 * U2 + U3 * U3) ≤ N + 5000000000000000000000000000 := by
  have key : 1152921504606846976 * (U0 * U0 + U1 * U1 + U2 * U2 + U3 * U3) = N + 2 * (A0 * B0 + A1 * B1 + A2 * B2 + A3 * B3) + (B0 * B0 + B1 * B1 + B2 * B2 + B3 * B3) := by
    have e0 : 1073741824 * U0 * (1073741824 * U0) = (A0 + B0) * (A0 + B0) := by rw [h0]
    have e1 : 1073741824 * U1 * (1073741824 * U1) = (A1 + B1) * (A1 + B1) := by rw [h1]
    have e2 : 1073741824 * U2 * (1073741824 * U2) = (A2 + B2) * (A2 + B2) := by rw [h2]
    have e3 : 1073741824 * U3 * (1073741824 * U3) = (A3 + B3) * (A3 + B3) := by rw [h3]
    clear h0 h1 h2 h3 b0 b1 b2 b3 hb
    grind
  have c0 := ab (A := A0) b0
  have c1 := ab (A := A1) b1
  have c2 := ab (A := A2) b2
  have c3 := ab (A := A3) b3
  have d0 := ab (A := B0) b0
  have d1 := ab (A := B1) b1
  have d2 := ab (A := B2) b2
  have d3 := ab (A := B3) b3
  have f0 : (B0.natAbs : Int) ≤ 1073741824 := by omega
  have f1 : (B1.natAbs : Int) ≤ 1073741824 := by omega
  have f2 : (B2.natAbs : Int) ≤ 1073741824 := by omega
  have f3 : (B3.natAbs : Int) ≤ 1073741824 := by omega
  have s0 := sq_nonneg B0
  have s1 := sq_nonneg B1
  have s2 := sq_nonneg B2
  have s3 := sq_nonneg B3
  have hS : (A0.natAbs : Int) + A1.natAbs + A2.natAbs + A3.natAbs ≤ 2305844000000000000 := by
    refine Int.not_lt.1 (fun hc => ?_)
    have q0 : (A0.natAbs : Int) * A0.natAbs = A0 * A0 := Int.natAbs_mul_self
    have q1 : (A1.natAbs : Int) * A1.natAbs = A1 * A1 := Int.natAbs_mul_self
    have q2 : (A2.natAbs : Int) * A2.natAbs = A2 * A2 := Int.natAbs_mul_self
    have q3 : (A3.natAbs : Int) * A3.natAbs = A3 * A3 := Int.natAbs_mul_self
    generalize (A0.natAbs : Int) = a0 at *
    generalize (A1.natAbs : Int) = a1 at *
    generalize (A2.natAbs : Int) = a2 at *
    generalize (A3.natAbs : Int) = a3 at *
    have g : 2305844000000000000 * 2305844000000000000 < (a0 + a1 + a2 + a3) * (a0 + a1 + a2 + a3) := Int.mul_lt_mul hc (Int.le_of_lt hc) (by decide) (Int.le_trans (by decide) (Int.le_of_lt hc))
    have t : (a0 + a1 + a2 + a3) * (a0 + a1 + a2 + a3) + (a0 - a1) * (a0 - a1) + (a1 - a2) * (a1 - a2) + (a2 - a3) * (a2 - a3) + (a3 - a0) * (a3 - a0) + (a0 - a2) * (a0 - a2) + (a1 - a3) * (a1 - a3) = 4 * N := by
      clear g hc c0 c1 c2 c3 d0 d1 d2 d3 key h0 h1 h2 h3
      grind
    have u0 := sq_nonneg (a0 - a1)
    have u1 := sq_nonneg (a1 - a2)
    have u2 := sq_nonneg (a2 - a3)
    have u3 := sq_nonneg (a3 - a0)
    have u4 := sq_nonneg (a0 - a2)
    have u5 := sq_nonneg (a1 - a3)
    generalize (a0 + a1 + a2 + a3) * (a0 + a1 + a2 + a3) = X at *
    generalize (a0 - a1) * (a0 - a1) = X0 at *
    generalize (a1 - a2) * (a1 - a2) = X1 at *
    generalize (a2 - a3) * (a2 - a3) = X2 at *
    generalize (a3 - a0) * (a3 - a0) = X3 at *
    generalize (a0 - a2) * (a0 - a2) = X4 at *
    generalize (a1 - a3) * (a1 - a3) = X5 at *
    clear c0 c1 c2 c3 d0 d1 d2 d3 key
    omega
  rw [key]
  clear hN key h0 h1 h2 h3 hb
  generalize A0 * B0 = p0 at *
  generalize A1 * B1 = p1 at *
  generalize A2 * B2 = p2 at *
  generalize A3 * B3 = p3 at *
  generalize B0 * B0 = r0 at *
  generalize B1 * B1 = r1 at *
  generalize B2 * B2 = r2 at *
  generalize B3 * B3 = r3 at *
  omega
/-- A square, rounded. -/
theorem sq_is {g : Wd} (hg : g.v * g.v ≤ 2305843000000000000) : 0 ≤ (mulqW g g).v ∧ -536870912 ≤ 1073741824 * (mulqW g g).v - g.v * g.v ∧ 1073741824 * (mulqW g g).v - g.v * g.v ≤ 536870912 := by
  have p : 0 ≤ g.v * g.v := sq_nonneg _
  rw [mulq_is (by generalize g.v * g.v = P at *; omega)]
  generalize g.v * g.v = P at *
  omega
/-- The norm of words whose squares come to less than 2. -/
theorem norm_is {a b c d : Wd} (hn : a.v * a.v + b.v * b.v + c.v * c.v + d.v * d.v ≤ 2305843000000000000) :
    (normW a [b, c, d]).v = (mulqW a a).v + (mulqW b b).v + (mulqW c c).v + (mulqW d d).v ∧
    ∃ s : Int, 1073741824 * (normW a [b, c, d]).v = a.v * a.v + b.v * b.v + c.v * c.v + d.v * d.v + s ∧ -2147483648 ≤ s ∧ s ≤ 2147483648 := by
  have n0 := sq_nonneg a.v
  have n1 := sq_nonneg b.v
  have n2 := sq_nonneg c.v
  have n3 := sq_nonneg d.v
  obtain ⟨a0, a1, a2⟩ := sq_is (g := a) (by omega)
  obtain ⟨b0, b1, b2⟩ := sq_is (g := b) (by omega)
  obtain ⟨c0, c1, c2⟩ := sq_is (g := c) (by omega)
  obtain ⟨d0, d1, d2⟩ := sq_is (g := d) (by omega)
  have e : (normW a [b, c, d]).v = (mulqW a a).v + (mulqW b b).v + (mulqW c c).v + (mulqW d d).v := by
    have s1 : (addsW (mulqW a a) (mulqW b b)).v = (mulqW a a).v + (mulqW b b).v := adds_is (by omega)
    have s2 : (addsW (addsW (mulqW a a) (mulqW b b)) (mulqW c c)).v = (mulqW a a).v + (mulqW b b).v + (mulqW c c).v := by rw [adds_is (by rw [s1]; omega), s1]
    show (addsW (addsW (addsW (mulqW a a) (mulqW b b)) (mulqW c c)) (mulqW d d)).v = _
    rw [adds_is (by rw [s2]; omega), s2]
  refine ⟨e, 1073741824 * (normW a [b, c, d]).v - (a.v * a.v + b.v * b.v + c.v * c.v + d.v * d.v), by omega, ?_, ?_⟩ <;> rw [e] <;> omega
/-- One part, scaled. -/
theorem scaled_is {x z : Wd} {h : Nat} {H : Int} (hh : h ≤ 6) (hH : H = 2 ^ h) (hH0 : 0 < H) (hH2 : H ≤ 2) (hx : x.v * x.v ≤ 2305843000000000000) (hz : 0 ≤ z.v ∧ z.v ≤ 1288490189) :
    ∃ m : Int, (mulqW x z).v = m ∧ 1073741824 * (H * m) = H * z.v * x.v + (1073741824 * (H * m) - H * z.v * x.v) ∧ -1073741824 ≤ 1073741824 * (H * m) - H * z.v * x.v ∧ 1073741824 * (H * m) - H * z.v * x.v ≤ 1073741824 ∧
      (-2147483648 ≤ H * m → H * m ≤ 2147483647 → (scaledW x z (kW h)).v = H * m) := by
  have xx := abs_of_sq (A := x.v) (M := 1518500250) (by decide) (by omega)
  have e : (mulqW x z).v = (x.v * z.v + 536870912) / 1073741824 := by
    apply mulq_is
    have := mul_bd xx (show -1288490189 ≤ z.v ∧ z.v ≤ 1288490189 by omega)
    generalize x.v * z.v = P at *
    omega
  refine ⟨_, rfl, by omega, ?_, ?_, fun l r => ?_⟩
  · have hr : -536870912 ≤ 1073741824 * (mulqW x z).v - z.v * x.v ∧ 1073741824 * (mulqW x z).v - z.v * x.v ≤ 536870912 := by
      rw [e, Int.mul_comm z.v]
      generalize x.v * z.v = P at *
      omega
    have e1 : 1073741824 * (H * (mulqW x z).v) - H * z.v * x.v = H * (1073741824 * (mulqW x z).v - z.v * x.v) := by
      clear hr e xx hx hz hH
      grind
    rw [e1]
    have := ab (A := H) hr
    rw [Int.natAbs_of_nonneg (by omega)] at this
    omega
  · have hr : -536870912 ≤ 1073741824 * (mulqW x z).v - z.v * x.v ∧ 1073741824 * (mulqW x z).v - z.v * x.v ≤ 536870912 := by
      rw [e, Int.mul_comm z.v]
      generalize x.v * z.v = P at *
      omega
    have e1 : 1073741824 * (H * (mulqW x z).v) - H * z.v * x.v = H * (1073741824 * (mulqW x z).v - z.v * x.v) := by
      clear hr e xx hx hz hH
      grind
    rw [e1]
    have := ab (A := H) hr
    rw [Int.natAbs_of_nonneg (by omega)] at this
    omega
  · show (shlW (mulqW x z) (kW h)).v = _
    exact shl_is h H hh hH l r
/-- All that is used of Unit: each part is k by 2^30 times what it was, but for a rounding; k times k times the squares are near to 2^120; the squares behind are near to 2^60. -/
theorem unit_law (a b c d : Wd) (n : Int) (hn : n = a.v * a.v + b.v * b.v + c.v * c.v + d.v * d.v) (n0 : 576460754500000000 ≤ n) (n1 : n ≤ 2305843000000000000) :
    ∃ k U0 U1 U2 U3 : Int, 0 ≤ k ∧ (unitW a b c d).a.v = U0 ∧ (unitW a b c d).b.v = U1 ∧ (unitW a b c d).c.v = U2 ∧ (unitW a b c d).d.v = U3 ∧
      (-1073741824 ≤ 1073741824 * U0 - k * a.v ∧ 1073741824 * U0 - k * a.v ≤ 1073741824) ∧ (-1073741824 ≤ 1073741824 * U1 - k * b.v ∧ 1073741824 * U1 - k * b.v ≤ 1073741824) ∧
      (-1073741824 ≤ 1073741824 * U2 - k * c.v ∧ 1073741824 * U2 - k * c.v ≤ 1073741824) ∧ (-1073741824 ≤ 1073741824 * U3 - k * d.v ∧ 1073741824 * U3 - k * d.v ≤ 1073741824) ∧
      1329227995784915872903807060280344576 - 60700000000000000000000000000 ≤ k * k * n ∧ k * k * n ≤ 1329227995784915872903807060280344576 + 60700000000000000000000000000 ∧
      1152921504606846976 - 57000000000 ≤ U0 * U0 + U1 * U1 + U2 * U2 + U3 * U3 ∧ U0 * U0 + U1 * U1 + U2 * U2 + U3 * U3 ≤ 1152921504606846976 + 57000000000 := by
  have q0 := sq_nonneg a.v
  have q1 := sq_nonneg b.v
  have q2 := sq_nonneg c.v
  have q3 := sq_nonneg d.v
  obtain ⟨_, s, hs, hs1⟩ := norm_is (a := a) (b := b) (c := c) (d := d) (by omega)
  rw [← hn] at hs
  have hroot : ∃ (h : Nat) (H r : Int), (rootW (normW a [b, c, d])).2 = kW h ∧ h ≤ 6 ∧ H = 2 ^ h ∧ (H = 1 ∨ H = 2 ∧ 536870912 ≤ (rootU (normW a [b, c, d])).v) ∧ 4 * (rootU (normW a [b, c, d])).v = (normW a [b, c, d]).v * (H * H) - r ∧ 0 ≤ r ∧ r ≤ 3 ∧ 268435456 ≤ (rootU (normW a [b, c, d])).v ∧ (rootU (normW a [b, c, d])).v < 1073741824 := by
    have ok := (normW a [b, c, d]).ok
    unfold In32 at ok
    by_cases c0 : 1073741824 ≤ (normW a [b, c, d]).v
    · obtain ⟨e1, e2⟩ := root_0 (x := normW a [b, c, d]) c0
      exact ⟨0, 1, (normW a [b, c, d]).v % 4, Wd.ext_ (e2.trans (by decide +kernel)), by decide, by decide, .inl rfl, by omega, by omega, by omega, by omega, by omega⟩
    · obtain ⟨e1, e2⟩ := root_1 (x := normW a [b, c, d]) (by omega) (by omega)
      exact ⟨1, 2, 0, Wd.ext_ (e2.trans (by decide +kernel)), by decide, by decide, .inr ⟨rfl, by omega⟩, by omega, by omega, by omega, by omega, by omega⟩
  obtain ⟨h, H, r, e2, hh, hH, hH12, hur, r0, r3, u0, u1⟩ := hroot
  obtain ⟨z0, z1, d0, d1⟩ := rootZ_dist (u := rootU (normW a [b, c, d])) ⟨u0, u1⟩
  have hk := kn_bd hH12 hs hs1 hur ⟨r0, r3⟩ u0 ⟨d0, d1⟩
  have hH0 : 0 < H ∧ H ≤ 2 := by omega
  have zz : 0 ≤ (rootZ (rootU (normW a [b, c, d])) 4).v ∧ (rootZ (rootU (normW a [b, c, d])) 4).v ≤ 1288490189 := by omega
  unfold unitW
  rw [e2]
  show ∃ k U0 U1 U2 U3 : Int, 0 ≤ k ∧ (scaledW a (rootZ (rootU (normW a [b, c, d])) 4) (kW h)).v = U0 ∧ (scaledW b (rootZ (rootU (normW a [b, c, d])) 4) (kW h)).v = U1 ∧ (scaledW c (rootZ (rootU (normW a [b, c, d])) 4) (kW h)).v = U2 ∧ (scaledW d (rootZ (rootU (normW a [b, c, d])) 4) (kW h)).v = U3 ∧ _
  clear d0 d1 u0 u1 hur hH12 e2 hs hs1 z0 z1 r0 r3
  generalize rootZ (rootU (normW a [b, c, d])) 4 = z at *
  obtain ⟨m0, _, p0, p0a, p0b, v0⟩ := scaled_is (x := a) hh hH hH0.1 hH0.2 (by omega) zz
  obtain ⟨m1, _, p1, p1a, p1b, v1⟩ := scaled_is (x := b) hh hH hH0.1 hH0.2 (by omega) zz
  obtain ⟨m2, _, p2, p2a, p2b, v2⟩ := scaled_is (x := c) hh hH hH0.1 hH0.2 (by omega) zz
  obtain ⟨m3, _, p3, p3a, p3b, v3⟩ := scaled_is (x := d) hh hH hH0.1 hH0.2 (by omega) zz
  have hN : H * z.v * a.v * (H * z.v * a.v) + H * z.v * b.v * (H * z.v * b.v) + H * z.v * c.v * (H * z.v * c.v) + H * z.v * d.v * (H * z.v * d.v) = H * z.v * (H * z.v) * n := by
    subst hn
    clear hk p0 p1 p2 p3 p0a p0b p1a p1b p2a p2b p3a p3b v0 v1 v2 v3 q0 q1 q2 q3 n0 n1 hH hh zz hH0
    grind
  obtain ⟨t0, t1⟩ := four p0 p1 p2 p3 ⟨p0a, p0b⟩ ⟨p1a, p1b⟩ ⟨p2a, p2b⟩ ⟨p3a, p3b⟩ hN hk.2
  have g0 : 1152921504606846976 - 57000000000 ≤ H * m0 * (H * m0) + H * m1 * (H * m1) + H * m2 * (H * m2) + H * m3 * (H * m3) := by omega
  have g1 : H * m0 * (H * m0) + H * m1 * (H * m1) + H * m2 * (H * m2) + H * m3 * (H * m3) ≤ 1152921504606846976 + 57000000000 := by omega
  have s0 := sq_nonneg (H * m0)
  have s1 := sq_nonneg (H * m1)
  have s2 := sq_nonneg (H * m2)
  have s3 := sq_nonneg (H * m3)
  have w0 := small (U := H * m0) (S := H * m0 * (H * m0) + H * m1 * (H * m1) + H * m2 * (H * m2) + H * m3 * (H * m3)) (by omega) (by omega)
  have w1 := small (U := H * m1) (S := H * m0 * (H * m0) + H * m1 * (H * m1) + H * m2 * (H * m2) + H * m3 * (H * m3)) (by omega) (by omega)
  have w2 := small (U := H * m2) (S := H * m0 * (H * m0) + H * m1 * (H * m1) + H * m2 * (H * m2) + H * m3 * (H * m3)) (by omega) (by omega)
  have w3 := small (U := H * m3) (S := H * m0 * (H * m0) + H * m1 * (H * m1) + H * m2 * (H * m2) + H * m3 * (H * m3)) (by omega) (by omega)
  exact ⟨H * z.v, H * m0, H * m1, H * m2, H * m3, Int.mul_nonneg (by omega) zz.1, v0 (by omega) (by omega), v1 (by omega) (by omega), v2 (by omega) (by omega), v3 (by omega) (by omega), ⟨p0a, p0b⟩, ⟨p1a, p1b⟩, ⟨p2a, p2b⟩, ⟨p3a, p3b⟩, hk.1, hk.2, g0, g1⟩
end Go.Proofs.YtbmfcedndbgpoaaGreat
