/- Texts of this claim, side by side: NormLaw, StepLaw, EvenLaw, EulerLaw, YawLaw, EulerLaw2, RollLaw, EulerTurn, Open. -/
import Derived.Test.YtbmfcedndbgpoaaGreatMY1
import Derived.Test.YtbmfcedndbgpoaaGreatWorks11
import Derived.Test.YtbmfcedndbgpoaaGreatTurned
import Derived.Test.YtbmfcedndbgpoaaGreatOf
import Derived.Test.YtbmfcedndbgpoaaGreatStill
import Derived.Test.YtbmfcedndbgpoaaGreatIs
import Derived.Test.YtbmfcedndbgpoaaGreatMem
import Derived.WalkKit
import Derived.ProofKit
import Derived.OpenShut
import Derived.Deep.Slices
/- The norm of what Unit makes is near 1. -/
namespace Go.Proofs.YtbmfcedndbgpoaaGreat
open Go.RowKit Go.Deep
set_option linter.unusedVariables false
theorem kn_bd {n N u z H r s : Int} (hH : H = 1 ∨ H = 2 ∧ 536870912 ≤ u) (h1 : 1073741824 * N = n + s) (hs : -2147483648 ≤ s ∧ s ≤ 2147483648) (h2 : 4 * u = N * (H * H) - r) (hr : 0 ≤ r ∧ r ≤ 3) (hu : 268435456 ≤ u)
    (hd : -48430741160944183193 ≤ 4 * (u * (z * z)) - 1237940039285380274899124224 ∧ 4 * (u * (z * z)) - 1237940039285380274899124224 ≤ 48430741160944183193) :
    1329227995784915872903807060280344576 - 60700000000000000000000000000 ≤ H * z * (H * z) * n ∧ H * z * (H * z) * n ≤ 1329227995784915872903807060280344576 + 60700000000000000000000000000 := by
  have hZ : 0 ≤ z * z := sq_nonneg z
  have e1 : H * z * (H * z) * n = 1073741824 * (4 * (u * (z * z))) + 1073741824 * (r * (z * z)) - H * H * ((z * z) * s) := by
    clear hH hs hr hu hd hZ
    grind
  have t := ab (A := z * z) hs
  rw [Int.natAbs_of_nonneg hZ] at t
  have p0 : 0 ≤ r * (z * z) := Int.mul_nonneg hr.1 hZ
  have p1 : r * (z * z) ≤ 3 * (z * z) := Int.mul_le_mul_of_nonneg_right hr.2 hZ
  rw [e1]
  clear e1 h1 h2
  rcases hH with rfl | ⟨rfl, hu2⟩
  · have q : 268435456 * (z * z) ≤ u * (z * z) := Int.mul_le_mul_of_nonneg_right hu hZ
    generalize z * z * s = T at *
    generalize r * (z * z) = p at *
    generalize u * (z * z) = Q at *
    generalize z * z = Z at *
    omega
  · have q : 536870912 * (z * z) ≤ u * (z * z) := Int.mul_le_mul_of_nonneg_right hu2 hZ
    generalize z * z * s = T at *
    generalize r * (z * z) = p at *
    generalize u * (z * z) = Q at *
    generalize z * z = Z at *
    omega
theorem abs_of_sq {A M : Int} (hM : 0 ≤ M) (h : A * A ≤ M * M) : -M ≤ A ∧ A ≤ M := by
  constructor
  · refine Int.not_lt.1 (fun hc => ?_)
    have : (M + 1) * (M + 1) ≤ (-A) * (-A) := Int.mul_le_mul (by omega) (by omega) (by omega) (by omega)
    rw [Int.neg_mul_neg] at this
    have e : (M + 1) * (M + 1) = M * M + 2 * M + 1 := by grind
    omega
  · refine Int.not_lt.1 (fun hc => ?_)
    have : (M + 1) * (M + 1) ≤ A * A := Int.mul_le_mul (by omega) (by omega) (by omega) (by omega)
    have e : (M + 1) * (M + 1) = M * M + 2 * M + 1 := by grind
    omega
/-- Four parts, rounded. -/
theorem four {A0 A1 A2 A3 B0 B1 B2 B3 U0 U1 U2 U3 N : Int}
    (h0 : 1073741824 * U0 = A0 + B0) (h1 : 1073741824 * U1 = A1 + B1) (h2 : 1073741824 * U2 = A2 + B2) (h3 : 1073741824 * U3 = A3 + B3)
    (b0 : -1073741824 ≤ B0 ∧ B0 ≤ 1073741824) (b1 : -1073741824 ≤ B1 ∧ B1 ≤ 1073741824) (b2 : -1073741824 ≤ B2 ∧ B2 ≤ 1073741824) (b3 : -1073741824 ≤ B3 ∧ B3 ≤ 1073741824)
    (hN : A0 * A0 + A1 * A1 + A2 * A2 + A3 * A3 = N) (hb : N ≤ 1329227995784915872903807060280344576 + 60700000000000000000000000000) :
    N - 5000000000000000000000000000 ≤ 1152921504606846976 * (U0 * U0 + U1 * U1 + U2 * U2 + U3 * U3) ∧ 1152921504606846976 * (U0 * U0 + U1 * U1 + U2 * U2 + U3 * U3) ≤ N + 5000000000000000000000000000 := by
  have key : 1152921504606846976 * (U0 * U0 + U1 * U1 + U2 * U2 + U3 * U3) = N + 2 * (A0 * B0 + A1 * B1 + A2 * B2 + A3 * B3) + (B0 * B0 + B1 * B1 + B2 * B2 + B3 * B3) := by
    have e0 : 1073741824 * U0 * (1073741824 * U0) = (A0 + B0) * (A0 + B0) := by rw [h0]
    have e1 : 1073741824 * U1 * (1073741824 * U1) = (A1 + B1) * (A1 + B1) := by rw [h1]
    have e2 : 1073741824 * U2 * (1073741824 * U2) = (A2 + B2) * (A2 + B2) := by rw [h2]
    have e3 : 1073741824 * U3 * (1073741824 * U3) = (A3 + B3) * (A3 + B3) := by rw [h3]
    clear h0 h1 h2 h3 b0 b1 b2 b3 hb
    grind
  have c0 := ab (A := A0) b0
  have c1 := ab (A := A1) b1
  have c2 := ab (A := A2) b2
  have c3 := ab (A := A3) b3
  have d0 := ab (A := B0) b0
  have d1 := ab (A := B1) b1
  have d2 := ab (A := B2) b2
  have d3 := ab (A := B3) b3
  have f0 : (B0.natAbs : Int) ≤ 1073741824 := by omega
  have f1 : (B1.natAbs : Int) ≤ 1073741824 := by omega
  have f2 : (B2.natAbs : Int) ≤ 1073741824 := by omega
  have f3 : (B3.natAbs : Int) ≤ 1073741824 := by omega
  have s0 := sq_nonneg B0
  have s1 := sq_nonneg B1
  have s2 := sq_nonneg B2
  have s3 := sq_nonneg B3
  have hS : (A0.natAbs : Int) + A1.natAbs + A2.natAbs + A3.natAbs ≤ 2305844000000000000 := by
    refine Int.not_lt.1 (fun hc => ?_)
    have q0 : (A0.natAbs : Int) * A0.natAbs = A0 * A0 := Int.natAbs_mul_self
    have q1 : (A1.natAbs : Int) * A1.natAbs = A1 * A1 := Int.natAbs_mul_self
    have q2 : (A2.natAbs : Int) * A2.natAbs = A2 * A2 := Int.natAbs_mul_self
    have q3 : (A3.natAbs : Int) * A3.natAbs = A3 * A3 := Int.natAbs_mul_self
    generalize (A0.natAbs : Int) = a0 at *
    generalize (A1.natAbs : Int) = a1 at *
    generalize (A2.natAbs : Int) = a2 at *
    generalize (A3.natAbs : Int) = a3 at *
    have g : 2305844000000000000 * 2305844000000000000 < (a0 + a1 + a2 + a3) * (a0 + a1 + a2 + a3) := Int.mul_lt_mul hc (Int.le_of_lt hc) (by decide) (Int.le_trans (by decide) (Int.le_of_lt hc))
    have t : (a0 + a1 + a2 + a3) * (a0 + a1 + a2 + a3) + (a0 - a1) * (a0 - a1) + (a1 - a2) * (a1 - a2) + (a2 - a3) * (a2 - a3) + (a3 - a0) * (a3 - a0) + (a0 - a2) * (a0 - a2) + (a1 - a3) * (a1 - a3) = 4 * N := by
      clear g hc c0 c1 c2 c3 d0 d1 d2 d3 key h0 h1 h2 h3
      grind
    have u0 := sq_nonneg (a0 - a1)
    have u1 := sq_nonneg (a1 - a2)
    have u2 := sq_nonneg (a2 - a3)
    have u3 := sq_nonneg (a3 - a0)
    have u4 := sq_nonneg (a0 - a2)
    have u5 := sq_nonneg (a1 - a3)
    generalize (a0 + a1 + a2 + a3) * (a0 + a1 + a2 + a3) = X at *
    generalize (a0 - a1) * (a0 - a1) = X0 at *
    generalize (a1 - a2) * (a1 - a2) = X1 at *
    generalize (a2 - a3) * (a2 - a3) = X2 at *
    generalize (a3 - a0) * (a3 - a0) = X3 at *
    generalize (a0 - a2) * (a0 - a2) = X4 at *
    generalize (a1 - a3) * (a1 - a3) = X5 at *
    clear c0 c1 c2 c3 d0 d1 d2 d3 key
    omega
  rw [key]
  clear hN key h0 h1 h2 h3 hb
  generalize A0 * B0 = p0 at *
  generalize A1 * B1 = p1 at *
  generalize A2 * B2 = p2 at *
  generalize A3 * B3 = p3 at *
  generalize B0 * B0 = r0 at *
  generalize B1 * B1 = r1 at *
  generalize B2 * B2 = r2 at *
  generalize B3 * B3 = r3 at *
  omega
/-- A square, rounded. -/
theorem sq_is {g : Wd} (hg : g.v * g.v ≤ 2305843000000000000) : 0 ≤ (mulqW g g).v ∧ -536870912 ≤ 1073741824 * (mulqW g g).v - g.v * g.v ∧ 1073741824 * (mulqW g g).v - g.v * g.v ≤ 536870912 := by
  have p : 0 ≤ g.v * g.v := sq_nonneg _
  rw [mulq_is (by generalize g.v * g.v = P at *; omega)]
  generalize g.v * g.v = P at *
  omega
/-- The norm of words whose squares come to less than 2. -/
theorem norm_is {a b c d : Wd} (hn : a.v * a.v + b.v * b.v + c.v * c.v + d.v * d.v ≤ 2305843000000000000) :
    (normW a [b, c, d]).v = (mulqW a a).v + (mulqW b b).v + (mulqW c c).v + (mulqW d d).v ∧
    ∃ s : Int, 1073741824 * (normW a [b, c, d]).v = a.v * a.v + b.v * b.v + c.v * c.v + d.v * d.v + s ∧ -2147483648 ≤ s ∧ s ≤ 2147483648 := by
  have n0 := sq_nonneg a.v
  have n1 := sq_nonneg b.v
  have n2 := sq_nonneg c.v
  have n3 := sq_nonneg d.v
  obtain ⟨a0, a1, a2⟩ := sq_is (g := a) (by omega)
  obtain ⟨b0, b1, b2⟩ := sq_is (g := b) (by omega)
  obtain ⟨c0, c1, c2⟩ := sq_is (g := c) (by omega)
  obtain ⟨d0, d1, d2⟩ := sq_is (g := d) (by omega)
  have e : (normW a [b, c, d]).v = (mulqW a a).v + (mulqW b b).v + (mulqW c c).v + (mulqW d d).v := by
    have s1 : (addsW (mulqW a a) (mulqW b b)).v = (mulqW a a).v + (mulqW b b).v := adds_is (by omega)
    have s2 : (addsW (addsW (mulqW a a) (mulqW b b)) (mulqW c c)).v = (mulqW a a).v + (mulqW b b).v + (mulqW c c).v := by rw [adds_is (by rw [s1]; omega), s1]
    show (addsW (addsW (addsW (mulqW a a) (mulqW b b)) (mulqW c c)) (mulqW d d)).v = _
    rw [adds_is (by rw [s2]; omega), s2]
  refine ⟨e, 1073741824 * (normW a [b, c, d]).v - (a.v * a.v + b.v * b.v + c.v * c.v + d.v * d.v), by omega, ?_, ?_⟩ <;> rw [e] <;> omega
/-- One part, scaled. -/
theorem scaled_is {x z : Wd} {h : Nat} {H : Int} (hh : h ≤ 6) (hH : H = 2 ^ h) (hH0 : 0 < H) (hH2 : H ≤ 2) (hx : x.v * x.v ≤ 2305843000000000000) (hz : 0 ≤ z.v ∧ z.v ≤ 1288490189) :
    ∃ m : Int, (mulqW x z).v = m ∧ 1073741824 * (H * m) = H * z.v * x.v + (1073741824 * (H * m) - H * z.v * x.v) ∧ -1073741824 ≤ 1073741824 * (H * m) - H * z.v * x.v ∧ 1073741824 * (H * m) - H * z.v * x.v ≤ 1073741824 ∧
      (-2147483648 ≤ H * m → H * m ≤ 2147483647 → (scaledW x z (kW h)).v = H * m) := by
  have xx := abs_of_sq (A := x.v) (M := 1518500250) (by decide) (by omega)
  have e : (mulqW x z).v = (x.v * z.v + 536870912) / 1073741824 := by
    apply mulq_is
    have := mul_bd xx (show -1288490189 ≤ z.v ∧ z.v ≤ 1288490189 by omega)
    generalize x.v * z.v = P at *
    omega
  refine ⟨_, rfl, by omega, ?_, ?_, fun l r => ?_⟩
  · have hr : -536870912 ≤ 1073741824 * (mulqW x z).v - z.v * x.v ∧ 1073741824 * (mulqW x z).v - z.v * x.v ≤ 536870912 := by
      rw [e, Int.mul_comm z.v]
      generalize x.v * z.v = P at *
      omega
    have e1 : 1073741824 * (H * (mulqW x z).v) - H * z.v * x.v = H * (1073741824 * (mulqW x z).v - z.v * x.v) := by
      clear hr e xx hx hz hH
      grind
    rw [e1]
    have := ab (A := H) hr
    rw [Int.natAbs_of_nonneg (by omega)] at this
    omega
  · have hr : -536870912 ≤ 1073741824 * (mulqW x z).v - z.v * x.v ∧ 1073741824 * (mulqW x z).v - z.v * x.v ≤ 536870912 := by
      rw [e, Int.mul_comm z.v]
      generalize x.v * z.v = P at *
      omega
    have e1 : 1073741824 * (H * (mulqW x z).v) - H * z.v * x.v = H * (1073741824 * (mulqW x z).v - z.v * x.v) := by
      clear hr e xx hx hz hH
      grind
    rw [e1]
    have := ab (A := H) hr
    rw [Int.natAbs_of_nonneg (by omega)] at this
    omega
  · show (shlW (mulqW x z) (kW h)).v = _
    exact shl_is h H hh hH l r
/-- All that is used of Unit: each part is k by 2^30 times what it was, but for a rounding; k times k times the squares are near to 2^120; the squares behind are near to 2^60. -/
theorem unit_law (a b c d : Wd) (n : Int) (hn : n = a.v * a.v + b.v * b.v + c.v * c.v + d.v * d.v) (n0 : 576460754500000000 ≤ n) (n1 : n ≤ 2305843000000000000) :
    ∃ k U0 U1 U2 U3 : Int, 0 ≤ k ∧ (unitW a b c d).a.v = U0 ∧ (unitW a b c d).b.v = U1 ∧ (unitW a b c d).c.v = U2 ∧ (unitW a b c d).d.v = U3 ∧
      (-1073741824 ≤ 1073741824 * U0 - k * a.v ∧ 1073741824 * U0 - k * a.v ≤ 1073741824) ∧ (-1073741824 ≤ 1073741824 * U1 - k * b.v ∧ 1073741824 * U1 - k * b.v ≤ 1073741824) ∧
      (-1073741824 ≤ 1073741824 * U2 - k * c.v ∧ 1073741824 * U2 - k * c.v ≤ 1073741824) ∧ (-1073741824 ≤ 1073741824 * U3 - k * d.v ∧ 1073741824 * U3 - k * d.v ≤ 1073741824) ∧
      1329227995784915872903807060280344576 - 60700000000000000000000000000 ≤ k * k * n ∧ k * k * n ≤ 1329227995784915872903807060280344576 + 60700000000000000000000000000 ∧
      1152921504606846976 - 57000000000 ≤ U0 * U0 + U1 * U1 + U2 * U2 + U3 * U3 ∧ U0 * U0 + U1 * U1 + U2 * U2 + U3 * U3 ≤ 1152921504606846976 + 57000000000 := by
  have q0 := sq_nonneg a.v
  have q1 := sq_nonneg b.v
  have q2 := sq_nonneg c.v
  have q3 := sq_nonneg d.v
  obtain ⟨_, s, hs, hs1⟩ := norm_is (a := a) (b := b) (c := c) (d := d) (by omega)
  rw [← hn] at hs
  have hroot : ∃ (h : Nat) (H r : Int), (rootW (normW a [b, c, d])).2 = kW h ∧ h ≤ 6 ∧ H = 2 ^ h ∧ (H = 1 ∨ H = 2 ∧ 536870912 ≤ (rootU (normW a [b, c, d])).v) ∧ 4 * (rootU (normW a [b, c, d])).v = (normW a [b, c, d]).v * (H * H) - r ∧ 0 ≤ r ∧ r ≤ 3 ∧ 268435456 ≤ (rootU (normW a [b, c, d])).v ∧ (rootU (normW a [b, c, d])).v < 1073741824 := by
    have ok := (normW a [b, c, d]).ok
    unfold In32 at ok
    by_cases c0 : 1073741824 ≤ (normW a [b, c, d]).v
    · obtain ⟨e1, e2⟩ := root_0 (x := normW a [b, c, d]) c0
      exact ⟨0, 1, (normW a [b, c, d]).v % 4, Wd.ext_ (e2.trans (by decide +kernel)), by decide, by decide, .inl rfl, by omega, by omega, by omega, by omega, by omega⟩
    · obtain ⟨e1, e2⟩ := root_1 (x := normW a [b, c, d]) (by omega) (by omega)
      exact ⟨1, 2, 0, Wd.ext_ (e2.trans (by decide +kernel)), by decide, by decide, .inr ⟨rfl, by omega⟩, by omega, by omega, by omega, by omega, by omega⟩
  obtain ⟨h, H, r, e2, hh, hH, hH12, hur, r0, r3, u0, u1⟩ := hroot
  obtain ⟨z0, z1, d0, d1⟩ := rootZ_dist (u := rootU (normW a [b, c, d])) ⟨u0, u1⟩
  have hk := kn_bd hH12 hs hs1 hur ⟨r0, r3⟩ u0 ⟨d0, d1⟩
  have hH0 : 0 < H ∧ H ≤ 2 := by omega
  have zz : 0 ≤ (rootZ (rootU (normW a [b, c, d])) 4).v ∧ (rootZ (rootU (normW a [b, c, d])) 4).v ≤ 1288490189 := by omega
  unfold unitW
  rw [e2]
  show ∃ k U0 U1 U2 U3 : Int, 0 ≤ k ∧ (scaledW a (rootZ (rootU (normW a [b, c, d])) 4) (kW h)).v = U0 ∧ (scaledW b (rootZ (rootU (normW a [b, c, d])) 4) (kW h)).v = U1 ∧ (scaledW c (rootZ (rootU (normW a [b, c, d])) 4) (kW h)).v = U2 ∧ (scaledW d (rootZ (rootU (normW a [b, c, d])) 4) (kW h)).v = U3 ∧ _
  clear d0 d1 u0 u1 hur hH12 e2 hs hs1 z0 z1 r0 r3
  generalize rootZ (rootU (normW a [b, c, d])) 4 = z at *
  obtain ⟨m0, _, p0, p0a, p0b, v0⟩ := scaled_is (x := a) hh hH hH0.1 hH0.2 (by omega) zz
  obtain ⟨m1, _, p1, p1a, p1b, v1⟩ := scaled_is (x := b) hh hH hH0.1 hH0.2 (by omega) zz
  obtain ⟨m2, _, p2, p2a, p2b, v2⟩ := scaled_is (x := c) hh hH hH0.1 hH0.2 (by omega) zz
  obtain ⟨m3, _, p3, p3a, p3b, v3⟩ := scaled_is (x := d) hh hH hH0.1 hH0.2 (by omega) zz
  have hN : H * z.v * a.v * (H * z.v * a.v) + H * z.v * b.v * (H * z.v * b.v) + H * z.v * c.v * (H * z.v * c.v) + H * z.v * d.v * (H * z.v * d.v) = H * z.v * (H * z.v) * n := by
    subst hn
    clear hk p0 p1 p2 p3 p0a p0b p1a p1b p2a p2b p3a p3b v0 v1 v2 v3 q0 q1 q2 q3 n0 n1 hH hh zz hH0
    grind
  obtain ⟨t0, t1⟩ := four p0 p1 p2 p3 ⟨p0a, p0b⟩ ⟨p1a, p1b⟩ ⟨p2a, p2b⟩ ⟨p3a, p3b⟩ hN hk.2
  have g0 : 1152921504606846976 - 57000000000 ≤ H * m0 * (H * m0) + H * m1 * (H * m1) + H * m2 * (H * m2) + H * m3 * (H * m3) := by omega
  have g1 : H * m0 * (H * m0) + H * m1 * (H * m1) + H * m2 * (H * m2) + H * m3 * (H * m3) ≤ 1152921504606846976 + 57000000000 := by omega
  have s0 := sq_nonneg (H * m0)
  have s1 := sq_nonneg (H * m1)
  have s2 := sq_nonneg (H * m2)
  have s3 := sq_nonneg (H * m3)
  have w0 := small (U := H * m0) (S := H * m0 * (H * m0) + H * m1 * (H * m1) + H * m2 * (H * m2) + H * m3 * (H * m3)) (by omega) (by omega)
  have w1 := small (U := H * m1) (S := H * m0 * (H * m0) + H * m1 * (H * m1) + H * m2 * (H * m2) + H * m3 * (H * m3)) (by omega) (by omega)
  have w2 := small (U := H * m2) (S := H * m0 * (H * m0) + H * m1 * (H * m1) + H * m2 * (H * m2) + H * m3 * (H * m3)) (by omega) (by omega)
  have w3 := small (U := H * m3) (S := H * m0 * (H * m0) + H * m1 * (H * m1) + H * m2 * (H * m2) + H * m3 * (H * m3)) (by omega) (by omega)
  exact ⟨H * z.v, H * m0, H * m1, H * m2, H * m3, Int.mul_nonneg (by omega) zz.1, v0 (by omega) (by omega), v1 (by omega) (by omega), v2 (by omega) (by omega), v3 (by omega) (by omega), ⟨p0a, p0b⟩, ⟨p1a, p1b⟩, ⟨p2a, p2b⟩, ⟨p3a, p3b⟩, hk.1, hk.2, g0, g1⟩
end Go.Proofs.YtbmfcedndbgpoaaGreat

/- A step's norm stays near 1, no part goes far, and who stays, stays. -/
namespace Go.Proofs.YtbmfcedndbgpoaaGreat
open Go.RowKit Go.Deep
set_option linter.unusedVariables false
theorem clip_bd (x : Wd) : -134217728 ≤ (clipW x).v ∧ (clipW x).v ≤ 134217728 := by
  show -134217728 ≤ minI (maxI x.v (kW (-134217728)).v) (kW 134217728).v ∧ minI (maxI x.v (kW (-134217728)).v) (kW 134217728).v ≤ 134217728
  rw [kW_v (show In32 (-134217728) by decide), kW_v (show In32 134217728 by decide)]
  unfold minI maxI
  constructor <;> (repeat' split) <;> omega
theorem part_far {q : Wd} (hq : -1342177280 ≤ q.v ∧ q.v ≤ 1342177280) (r b ga : Wd) : ∃ e : Int, (partW q r b ga).v = q.v + e ∧ -134217728 ≤ e ∧ e ≤ 134217728 := by
  have h := clip_bd (subsW r (andW (downW b 8) ga))
  exact ⟨_, adds_is (by omega), h⟩
theorem sq_le {e M : Int} (h : -M ≤ e ∧ e ≤ M) : e * e ≤ M * M := (mul_bd h h).2
/-- The squares of what is ahead of Unit. -/
theorem ahead_bd {q0 q1 q2 q3 e0 e1 e2 e3 : Int} (h : q0 * q0 + q1 * q1 + q2 * q2 + q3 * q3 - 1152921504606846976 < 68719476736) (h' : -68719476736 < q0 * q0 + q1 * q1 + q2 * q2 + q3 * q3 - 1152921504606846976)
    (b0 : -134217728 ≤ e0 ∧ e0 ≤ 134217728) (b1 : -134217728 ≤ e1 ∧ e1 ≤ 134217728) (b2 : -134217728 ≤ e2 ∧ e2 ≤ 134217728) (b3 : -134217728 ≤ e3 ∧ e3 ≤ 134217728) :
    648518294000000000 ≤ (q0 + e0) * (q0 + e0) + (q1 + e1) * (q1 + e1) + (q2 + e2) * (q2 + e2) + (q3 + e3) * (q3 + e3) ∧ (q0 + e0) * (q0 + e0) + (q1 + e1) * (q1 + e1) + (q2 + e2) * (q2 + e2) + (q3 + e3) * (q3 + e3) ≤ 1801440000000000000 := by
  have k0 := sq_le b0
  have k1 := sq_le b1
  have k2 := sq_le b2
  have k3 := sq_le b3
  have lo : ∀ q e : Int, 3 * (q * q) ≤ 4 * ((q + e) * (q + e)) + 12 * (e * e) := fun q e => by
    have := sq_nonneg (q + 4 * e)
    have t : (q + 4 * e) * (q + 4 * e) = 4 * ((q + e) * (q + e)) + 12 * (e * e) - 3 * (q * q) := by grind
    omega
  have hi : ∀ q e : Int, 4 * ((q + e) * (q + e)) ≤ 5 * (q * q) + 20 * (e * e) := fun q e => by
    have := sq_nonneg (q - 4 * e)
    have t : (q - 4 * e) * (q - 4 * e) = 5 * (q * q) + 20 * (e * e) - 4 * ((q + e) * (q + e)) := by grind
    omega
  have l0 := lo q0 e0
  have l1 := lo q1 e1
  have l2 := lo q2 e2
  have l3 := lo q3 e3
  have r0 := hi q0 e0
  have r1 := hi q1 e1
  have r2 := hi q2 e2
  have r3 := hi q3 e3
  clear lo hi
  generalize (q0 + e0) * (q0 + e0) = x0 at *
  generalize (q1 + e1) * (q1 + e1) = x1 at *
  generalize (q2 + e2) * (q2 + e2) = x2 at *
  generalize (q3 + e3) * (q3 + e3) = x3 at *
  generalize q0 * q0 = y0 at *
  generalize q1 * q1 = y1 at *
  generalize q2 * q2 = y2 at *
  generalize q3 * q3 = y3 at *
  generalize e0 * e0 = z0 at *
  generalize e1 * e1 = z1 at *
  generalize e2 * e2 = z2 at *
  generalize e3 * e3 = z3 at *
  omega
/-- One part goes no farther than 3/8 and a little. -/
theorem far_bd {k n q e U : Int} (hk : 0 ≤ k) (n0 : 648518294000000000 ≤ n) (n1 : n ≤ 1801440000000000000) (k0 : 1329227995784915872903807060280344576 - 60700000000000000000000000000 ≤ k * k * n) (k1 : k * k * n ≤ 1329227995784915872903807060280344576 + 60700000000000000000000000000)
    (hv : (q + e) * (q + e) ≤ n) (he : -134217728 ≤ e ∧ e ≤ 134217728) (u0 : -1073741824 ≤ 1073741824 * U - k * (q + e)) (u1 : 1073741824 * U - k * (q + e) ≤ 1073741824) :
    -537919488 < U - q ∧ U - q < 537919488 := by
  have a1 : k ≤ 1432000000 := by
    refine Int.not_lt.1 (fun hc => ?_)
    have h1 : 1432000000 * 1432000000 ≤ k * k := Int.mul_le_mul (by omega) (by omega) (by omega) hk
    have h2 : 1432000000 * 1432000000 * 648518294000000000 ≤ k * k * n := Int.mul_le_mul h1 n0 (by omega) (by omega)
    omega
  have a0 : 858990000 ≤ k := by
    refine Int.not_lt.1 (fun hc => ?_)
    have h1 : k * k ≤ 858990000 * 858990000 := Int.mul_le_mul (by omega) (by omega) hk (by omega)
    have h2 : k * k * n ≤ 858990000 * 858990000 * 1801440000000000000 := Int.mul_le_mul h1 n1 (by omega) (by omega)
    omega
  have hvv := abs_of_sq (A := q + e) (M := 1342177400) (by decide) (by omega)
  have hkv : -1152922000000000000 ≤ k * (q + e) ∧ k * (q + e) ≤ 1152922000000000000 := by
    apply abs_of_sq (by decide)
    have h1 : k * k * ((q + e) * (q + e)) ≤ k * k * n := Int.mul_le_mul_of_nonneg_left hv (Int.mul_nonneg hk hk)
    have e1 : k * (q + e) * (k * (q + e)) = k * k * ((q + e) * (q + e)) := by
      clear h1 hvv hv u0 u1 k0 k1
      grind
    rw [e1]
    omega
  generalize hV : q + e = V at *
  rcases Int.le_total 1073741824 k with h | h
  · have p := ab (A := k - 1073741824) hvv
    rw [Int.natAbs_of_nonneg (by omega)] at p
    -- 4 (k - 2^30) is at most k and a little
    have q1 : ∃ j, j = 1432000000 - k ∧ 0 ≤ j := ⟨_, rfl, by omega⟩
    have ee : (k - 1073741824) * V = k * V - 1073741824 * V := Int.sub_mul _ _ _
    rcases Int.le_total 0 V with hV0 | hV0
    · have s1 : 0 ≤ (k - 1073741824) * V := Int.mul_nonneg (by omega) hV0
      have s2 : 0 ≤ (1432000000 - k) * V := Int.mul_nonneg (by omega) hV0
      have s3 : (1432000000 - k) * V = 1432000000 * V - k * V := Int.sub_mul _ _ _
      generalize k * V = P at *
      omega
    · have s1 : (k - 1073741824) * V ≤ 0 := Int.mul_nonpos_of_nonneg_of_nonpos (by omega) hV0
      have s2 : (1432000000 - k) * V ≤ 0 := Int.mul_nonpos_of_nonneg_of_nonpos (by omega) hV0
      have s3 : (1432000000 - k) * V = 1432000000 * V - k * V := Int.sub_mul _ _ _
      generalize k * V = P at *
      omega
  · have ee : (1073741824 - k) * V = 1073741824 * V - k * V := Int.sub_mul _ _ _
    have p := ab (A := 1073741824 - k) hvv
    rw [Int.natAbs_of_nonneg (by omega)] at p
    generalize k * V = P at *
    omega
/-- A step: the norm stays near 1, and no part goes far. -/
theorem step_law (q0 q1 q2 q3 r0 r1 r2 r3 b0 b1 b2 b3 ga : Wd) (hq : IsQ q0 q1 q2 q3) :
    ∃ U0 U1 U2 U3 : Int, (unitW (partW q0 r0 b0 ga) (partW q1 r1 b1 ga) (partW q2 r2 b2 ga) (partW q3 r3 b3 ga)).a.v = U0 ∧ (unitW (partW q0 r0 b0 ga) (partW q1 r1 b1 ga) (partW q2 r2 b2 ga) (partW q3 r3 b3 ga)).b.v = U1 ∧
      (unitW (partW q0 r0 b0 ga) (partW q1 r1 b1 ga) (partW q2 r2 b2 ga) (partW q3 r3 b3 ga)).c.v = U2 ∧ (unitW (partW q0 r0 b0 ga) (partW q1 r1 b1 ga) (partW q2 r2 b2 ga) (partW q3 r3 b3 ga)).d.v = U3 ∧
      (-1073741952 ≤ U0 ∧ U0 ≤ 1073741952) ∧ (-1073741952 ≤ U1 ∧ U1 ≤ 1073741952) ∧ (-1073741952 ≤ U2 ∧ U2 ≤ 1073741952) ∧ (-1073741952 ≤ U3 ∧ U3 ≤ 1073741952) ∧
      U0 * U0 + U1 * U1 + U2 * U2 + U3 * U3 - 1152921504606846976 < 68719476736 ∧ -68719476736 < U0 * U0 + U1 * U1 + U2 * U2 + U3 * U3 - 1152921504606846976 ∧
      (-537919488 < U0 - q0.v ∧ U0 - q0.v < 537919488) ∧ (-537919488 < U1 - q1.v ∧ U1 - q1.v < 537919488) ∧ (-537919488 < U2 - q2.v ∧ U2 - q2.v < 537919488) ∧ (-537919488 < U3 - q3.v ∧ U3 - q3.v < 537919488) := by
  obtain ⟨h0, h1, h2, h3, n1, n0⟩ := hq
  obtain ⟨e0, p0, a0⟩ := part_far h0 r0 b0 ga
  obtain ⟨e1, p1, a1⟩ := part_far h1 r1 b1 ga
  obtain ⟨e2, p2, a2⟩ := part_far h2 r2 b2 ga
  obtain ⟨e3, p3, a3⟩ := part_far h3 r3 b3 ga
  have hb := ahead_bd n1 n0 a0 a1 a2 a3
  generalize partW q0 r0 b0 ga = x0 at *
  generalize partW q1 r1 b1 ga = x1 at *
  generalize partW q2 r2 b2 ga = x2 at *
  generalize partW q3 r3 b3 ga = x3 at *
  obtain ⟨k, U0, U1, U2, U3, hk, g0, g1, g2, g3, f0, f1, f2, f3, k0, k1, s0, s1⟩ := unit_law x0 x1 x2 x3 ((q0.v + e0) * (q0.v + e0) + (q1.v + e1) * (q1.v + e1) + (q2.v + e2) * (q2.v + e2) + (q3.v + e3) * (q3.v + e3)) (by rw [p0, p1, p2, p3]) (by omega) (by omega)
  rw [p0] at f0
  rw [p1] at f1
  rw [p2] at f2
  rw [p3] at f3
  have y0 := sq_nonneg (q0.v + e0)
  have y1 := sq_nonneg (q1.v + e1)
  have y2 := sq_nonneg (q2.v + e2)
  have y3 := sq_nonneg (q3.v + e3)
  have z0 := sq_nonneg U0
  have z1 := sq_nonneg U1
  have z2 := sq_nonneg U2
  have z3 := sq_nonneg U3
  have w0 := far_bd hk hb.1 hb.2 k0 k1 (by omega) a0 f0.1 f0.2
  have w1 := far_bd hk hb.1 hb.2 k0 k1 (by omega) a1 f1.1 f1.2
  have w2 := far_bd hk hb.1 hb.2 k0 k1 (by omega) a2 f2.1 f2.2
  have w3 := far_bd hk hb.1 hb.2 k0 k1 (by omega) a3 f3.1 f3.2
  clear k0 k1 f0 f1 f2 f3 y0 y1 y2 y3 hb
  exact ⟨U0, U1, U2, U3, g0, g1, g2, g3, small (S := U0 * U0 + U1 * U1 + U2 * U2 + U3 * U3) (by omega) (by omega), small (S := U0 * U0 + U1 * U1 + U2 * U2 + U3 * U3) (by omega) (by omega), small (S := U0 * U0 + U1 * U1 + U2 * U2 + U3 * U3) (by omega) (by omega), small (S := U0 * U0 + U1 * U1 + U2 * U2 + U3 * U3) (by omega) (by omega), by omega, by omega, w0, w1, w2, w3⟩
/-- Who stays: Unit of what is of the norm 1 is as it was, but for 64. -/
theorem stay_law (c s : Wd) (hq : IsQ c (kW 0) (kW 0) s) :
    ∃ U0 U3 : Int, (unitW c (kW 0) (kW 0) s).a.v = U0 ∧ (unitW c (kW 0) (kW 0) s).b.v = 0 ∧ (unitW c (kW 0) (kW 0) s).c.v = 0 ∧ (unitW c (kW 0) (kW 0) s).d.v = U3 ∧
      (-64 ≤ U0 - c.v ∧ U0 - c.v ≤ 64) ∧ (-64 ≤ U3 - s.v ∧ U3 - s.v ≤ 64) := by
  obtain ⟨h0, h1, h2, h3, n1, n0⟩ := hq
  have k0v : (kW 0).v = 0 := kW_v (by decide)
  obtain ⟨k, U0, U1, U2, U3, hk, g0, g1, g2, g3, f0, f1, f2, f3, k0, k1, s0, s1⟩ := unit_law c (kW 0) (kW 0) s _ rfl (by omega) (by omega)
  rw [k0v, Int.mul_zero] at f1 f2
  have y0 := sq_nonneg c.v
  have y3 := sq_nonneg s.v
  rw [k0v] at n0 n1 k0 k1
  have z1 : (unitW c (kW 0) (kW 0) s).b.v = 0 := by
    show wrap32 (satI ((kW 0).v * _ / 1073741824 + (kW 0).v * _ / 536870912 % 2) % 4294967296 * _ % 4294967296) = 0
    rw [k0v, Int.zero_mul]
    rw [show satI (0 / 1073741824 + 0 / 536870912 % 2) % 4294967296 = 0 by decide +kernel, Int.zero_mul]
    decide +kernel
  have z2 : (unitW c (kW 0) (kW 0) s).c.v = 0 := z1
  have kk : 1152921504606846976 - 130000000000 ≤ k * k ∧ k * k ≤ 1152921504606846976 + 130000000000 := by
    generalize c.v * c.v + 0 * 0 + 0 * 0 + s.v * s.v = n at *
    constructor
    · refine Int.not_lt.1 (fun hc => ?_)
      have : k * k * n ≤ (1152921504606846976 - 130000000000) * (1152921504606846976 + 68719476736) := Int.mul_le_mul (by omega) (by omega) (by omega) (by omega)
      omega
    · refine Int.not_lt.1 (fun hc => ?_)
      have : (1152921504606846976 + 130000000000) * (1152921504606846976 - 68719476736) ≤ k * k * n := Int.mul_le_mul (by omega) (by omega) (by omega) (Int.mul_nonneg hk hk)
      omega
  have kb : 1073741824 - 61 ≤ k ∧ k ≤ 1073741824 + 61 := by
    constructor
    · refine Int.not_lt.1 (fun hc => ?_)
      have : k * k ≤ (1073741824 - 62) * (1073741824 - 62) := Int.mul_le_mul (by omega) (by omega) hk (by omega)
      omega
    · refine Int.not_lt.1 (fun hc => ?_)
      have : (1073741824 + 62) * (1073741824 + 62) ≤ k * k := Int.mul_le_mul (by omega) (by omega) (by omega) hk
      omega
  have one : ∀ x U : Int, x * x ≤ 1152921573326323712 → -1073741824 ≤ 1073741824 * U - k * x ∧ 1073741824 * U - k * x ≤ 1073741824 → -64 ≤ U - x ∧ U - x ≤ 64 := by
    intro x U hx hu
    have hxx := abs_of_sq (A := x) (M := 1073741857) (by decide) (by omega)
    have p := ab (A := x) (B := k - 1073741824) (b := 61) (by omega)
    have q : (x.natAbs : Int) ≤ 1073741857 := by omega
    have e : x * (k - 1073741824) = k * x - 1073741824 * x := by
      clear p q hxx hx hu kb kk k0 k1 n0 n1
      grind
    rw [e] at p
    generalize k * x = P at *
    omega
  exact ⟨U0, U3, g0, z1, z2, g3, one _ _ (by omega) f0, one _ _ (by omega) f3⟩
end Go.Proofs.YtbmfcedndbgpoaaGreat

/- No part of what Even makes is longer than 1. -/
namespace Go.Proofs.YtbmfcedndbgpoaaGreat
open Go.RowKit Go.Deep
set_option linter.unusedVariables false
theorem shl_up {a : Wd} (h : Nat) (H : Int) (hh : h ≤ 11) (hH : H = 2 ^ h) (l : -2147483648 ≤ H * a.v) (r : H * a.v ≤ 2147483647) : (shlW a (kW h)).v = H * a.v := by
  show Go.RowKit.wrap32 (a.v % 4294967296 * 2 ^ sh (kW h).v % 4294967296) = _
  have e : sh (kW h).v = h := by
    have : ∀ h : Nat, h ≤ 11 → sh (kW h).v = h := by decide +kernel
    exact this h hh
  rw [e]
  have hc : h = 0 ∨ h = 1 ∨ h = 2 ∨ h = 3 ∨ h = 4 ∨ h = 5 ∨ h = 6 ∨ h = 7 ∨ h = 8 ∨ h = 9 ∨ h = 10 ∨ h = 11 := by omega
  unfold Go.RowKit.wrap32
  rcases hc with rfl | rfl | rfl | rfl | rfl | rfl | rfl | rfl | rfl | rfl | rfl | rfl <;> subst hH <;> simp only [Int.reducePow] at * <;> omega
/-- One part: g, its square at most 2^30 (x - 3). -/
theorem even_part {g x : Wd} (hg : -536870912 ≤ g.v ∧ g.v ≤ 536870912) (hx : 256 ≤ x.v) (hq : g.v * g.v ≤ 1073741824 * (x.v - 3)) :
    ∃ U : Int, (scaledW g (rootW x).1 (rootW x).2).v = U ∧ -1073750000 ≤ U ∧ U ≤ 1073750000 ∧ 0 ≤ U * g.v := by
  obtain ⟨h, H, e2, hh, hH, hH64, hH0, hxu, u0, u1⟩ := even_word hx
  obtain ⟨z0, z1, d0, d1⟩ := rootZ_dist (u := rootU x) ⟨u0, u1⟩
  rw [e2]
  show ∃ U : Int, (shlW (mulqW g (rootZ (rootU x) 4)) (kW h)).v = U ∧ _
  unfold dist at d0 d1
  generalize rootZ (rootU x) 4 = z at *
  have em : (mulqW g z).v = (g.v * z.v + 536870912) / 1073741824 := by
    rw [mulq_is]
    have := ab (A := z.v) (B := g.v) (b := 536870912) hg
    rw [Int.natAbs_of_nonneg (by omega), Int.mul_comm z.v g.v] at this
    generalize g.v * z.v = P at *
    omega
  obtain ⟨m, hm⟩ : ∃ m, m = (g.v * z.v + 536870912) / 1073741824 := ⟨_, rfl⟩
  have hA : H * (g.v * z.v) * (H * (g.v * z.v)) ≤ 1073741824 * (4 * ((rootU x).v * (z.v * z.v))) := by
    have hz : 0 ≤ z.v * z.v := sq_nonneg _
    have hHH : 0 ≤ H * H := sq_nonneg _
    have s1 : g.v * g.v * (H * H) ≤ 1073741824 * (x.v - 3) * (H * H) := Int.mul_le_mul_of_nonneg_right hq hHH
    have s2 : g.v * g.v * (H * H) ≤ 1073741824 * (4 * (rootU x).v) := by
      rw [Int.mul_assoc] at s1 ⊢
      rw [Int.mul_assoc] at s1
      generalize (x.v - 3) * (H * H) = Y at *
      omega
    have s3 := Int.mul_le_mul_of_nonneg_right s2 hz
    have e1 : H * (g.v * z.v) * (H * (g.v * z.v)) = g.v * g.v * (H * H) * (z.v * z.v) := by
      clear s1 s2 s3 d0 d1 hm em hq hxu hH
      grind
    have e3 : 1073741824 * (4 * (rootU x).v) * (z.v * z.v) = 1073741824 * (4 * ((rootU x).v * (z.v * z.v))) := by
      clear s1 s2 s3 d0 d1 hm em hq hxu hH e1
      grind
    rw [e1]
    rw [e3] at s3
    exact s3
  have hr : -536870912 ≤ 1073741824 * m - g.v * z.v ∧ 1073741824 * m - g.v * z.v ≤ 536870912 := by
    generalize g.v * z.v = P at *
    omega
  have hR := ab (A := H) hr
  rw [Int.natAbs_of_nonneg (by omega), Int.mul_sub] at hR
  have hV : -1152921600000000000 ≤ H * (g.v * z.v) ∧ H * (g.v * z.v) ≤ 1152921600000000000 := by
    generalize H * (g.v * z.v) = V at *
    generalize 4 * ((rootU x).v * (z.v * z.v)) = W at *
    constructor
    · refine Int.not_lt.1 (fun hc => ?_)
      have : 1152921600000000001 * 1152921600000000001 ≤ (-V) * (-V) := Int.mul_le_mul (by omega) (by omega) (by decide) (by omega)
      rw [Int.neg_mul_neg] at this
      omega
    · refine Int.not_lt.1 (fun hc => ?_)
      have : 1152921600000000001 * 1152921600000000001 ≤ V * V := Int.mul_le_mul (by omega) (by omega) (by decide) (by omega)
      omega
  have eU : H * (1073741824 * m) = 1073741824 * (H * m) := Int.mul_left_comm _ _ _
  have hU : -1073750000 ≤ H * m ∧ H * m ≤ 1073750000 := by
    generalize H * (g.v * z.v) = V at *
    generalize H * m = U at *
    clear hA d0 d1 hxu
    omega
  refine ⟨H * m, ?_, hU.1, hU.2, ?_⟩
  · rw [shl_up h H hh hH (by rw [em, ← hm]; omega) (by rw [em, ← hm]; omega), em, ← hm]
  · rcases Int.le_total 0 g.v with h | h
    · have : 0 ≤ g.v * z.v := Int.mul_nonneg h (by omega)
      exact Int.mul_nonneg (Int.mul_nonneg (by omega) (by omega)) h
    · have : g.v * z.v ≤ 0 := Int.mul_nonpos_of_nonpos_of_nonneg h (by omega)
      exact Int.mul_nonneg_of_nonpos_of_nonpos (Int.mul_nonpos_of_nonneg_of_nonpos (by omega) (by omega)) h
end Go.Proofs.YtbmfcedndbgpoaaGreat

/- Yaw and roll of who is turned about one axis; the bounds of all angles; the contrary quaternion. -/
namespace Go.Proofs.YtbmfcedndbgpoaaGreat
open Go.RowKit
set_option linter.unusedVariables false
/-- A root of what is not small is not 0. -/
theorem sqrt_pos {N : Wd} (h : 256 ≤ N.v) : 0 < (sqrtW N).v := by
  obtain ⟨h, H, e2, hh, hH, hH64, hH0, hxu, u0, u1⟩ := even_word h
  obtain ⟨z0, z1, d0, d1⟩ := rootZ_dist (u := rootU N) ⟨u0, u1⟩
  have ok := N.ok
  unfold In32 at ok
  show 0 < (scaledW N (rootW N).1 (rootW N).2).v
  rw [e2]
  show 0 < (shlW (mulqW N (rootZ (rootU N) 4)) (kW h)).v
  unfold dist at d0 d1
  generalize rootZ (rootU N) 4 = z at *
  have hZ : 0 ≤ z.v * z.v := sq_nonneg _
  have s1 : (N.v - 3) * (H * H) * (z.v * z.v) ≤ 4 * (rootU N).v * (z.v * z.v) := Int.mul_le_mul_of_nonneg_right hxu hZ
  have e1 : 4 * (rootU N).v * (z.v * z.v) = 4 * ((rootU N).v * (z.v * z.v)) := Int.mul_assoc _ _ _
  rw [e1] at s1
  obtain ⟨Z, hZe⟩ : ∃ Z, Z = H * H * (z.v * z.v) := ⟨_, rfl⟩
  have hZ0 : 0 ≤ Z := by rw [hZe]; exact Int.mul_nonneg (sq_nonneg _) hZ
  rw [Int.mul_assoc, ← hZe] at s1
  have t1 : (N.v + 3) * ((N.v - 3) * Z) ≤ 2147483650 * (1237940039285380274899124224 + 48430741160944183193) := Int.mul_le_mul (by omega) (by omega) (Int.mul_nonneg (by omega) hZ0) (by omega)
  have t2 : 253 * Z ≤ (N.v - 3) * Z := Int.mul_le_mul_of_nonneg_right (by omega) hZ0
  have t3 : H * (N.v * z.v) * (H * (N.v * z.v)) = (N.v + 3) * ((N.v - 3) * Z) + 9 * Z := by
    rw [hZe]
    clear t1 t2 s1 d0 d1 hxu hZe hZ0 hZ e1 hH
    grind
  have hb := abs_of_sq (A := H * (N.v * z.v)) (M := 1700000000000000000) (by decide) (by
    rw [t3]
    generalize (N.v + 3) * ((N.v - 3) * Z) = a at *
    generalize (N.v - 3) * Z = b at *
    omega)
  have hp : 256 * 357913942 ≤ N.v * z.v := Int.mul_le_mul (by omega) (by omega) (by omega) (by omega)
  have hp2 := mul_bd (a := N.v) (b := z.v) (A := 2147483647) (B := 1073741824 + 214748365) (by omega) (by omega)
  have hV : 1 * (N.v * z.v) ≤ H * (N.v * z.v) := Int.mul_le_mul_of_nonneg_right (by omega) (by omega)
  have em : (mulqW N z).v = (N.v * z.v + 536870912) / 1073741824 := mulq_is (by omega)
  obtain ⟨m, hm⟩ : ∃ m, m = (N.v * z.v + 536870912) / 1073741824 := ⟨_, rfl⟩
  rw [← hm] at em
  have hr : 1073741824 * m ≤ N.v * z.v + 536870912 := by omega
  have hm0 : 1 ≤ m := by omega
  have hr2 : H * (1073741824 * m) ≤ H * (N.v * z.v + 536870912) := Int.mul_le_mul_of_nonneg_left hr (by omega)
  have e3 : H * (1073741824 * m) = 1073741824 * (H * m) := Int.mul_left_comm _ _ _
  rw [e3, Int.mul_add] at hr2
  have hU : 0 < H * m := Int.mul_pos hH0 (by omega)
  rw [shl_up h H hh hH (by rw [em]; omega) (by rw [em]; omega), em]
  exact hU
theorem sqrt_small : ∀ n : Nat, n < 256 → 0 ≤ (sqrtW (kW n)).v := by decide +kernel
theorem sqrt_nonneg {N : Wd} (h : 0 ≤ N.v) : 0 ≤ (sqrtW N).v := by
  by_cases h2 : 256 ≤ N.v
  · exact Int.le_of_lt (sqrt_pos h2)
  · obtain ⟨n, hn⟩ := Int.eq_ofNat_of_zero_le h
    have e : N = kW n := Wd.ext_ (by rw [hn, kW_v (show In32 (n : Int) from ⟨by omega, by omega⟩)])
    rw [e]
    exact sqrt_small n (by omega)
/-- The doubled direction. -/
theorem dir_double {c s u v : Int} (h1 : c * c + s * s - 1152921504606846976 < 68719476736) (h2 : -68719476736 < c * c + s * s - 1152921504606846976)
    (hu : -536870912 ≤ 1073741824 * u - c * s ∧ 1073741824 * u - c * s ≤ 536870912) (hv : -536870912 ≤ 1073741824 * (536870912 - v) - s * s ∧ 1073741824 * (536870912 - v) - s * s ≤ 536870912) :
    Cone 80000000000000000000 ((G.mk v u).mul ((G.mk c s).mul (G.mk c s)).conj) := by
  obtain ⟨W, hW⟩ : ∃ W, W = c * c + s * s := ⟨_, rfl⟩
  obtain ⟨e1, he1⟩ : ∃ e, e = 2147483648 * v - (c * c - s * s) := ⟨_, rfl⟩
  obtain ⟨e2, he2⟩ : ∃ e, e = 2147483648 * u - 2 * (c * s) := ⟨_, rfl⟩
  have b1 : -69793218560 ≤ e1 ∧ e1 ≤ 69793218560 := by omega
  have b2 : -1073741824 ≤ e2 ∧ e2 ≤ 1073741824 := by omega
  have cc := sq_nonneg c
  have ss := sq_nonneg s
  have w1 : -W ≤ c * c - s * s ∧ c * c - s * s ≤ W := by omega
  have w2 : -W ≤ c * s + s * c ∧ c * s + s * c ≤ W := by
    have p := sq_nonneg (c + s)
    have q := sq_nonneg (c - s)
    have e : (c + s) * (c + s) = c * c + s * s + (c * s + s * c) := by grind
    have e' : (c - s) * (c - s) = c * c + s * s - (c * s + s * c) := by grind
    omega
  have p11 := mul_bd b1 w1
  have p12 := mul_bd b1 w2
  have p21 := mul_bd b2 w1
  have p22 := mul_bd b2 w2
  have eW : (c * c - s * s) * (c * c - s * s) + (c * s + s * c) * (c * s + s * c) = W * W := by rw [hW]; grind
  have eR : 2147483648 * (v * (c * c - s * s) - u * -(c * s + s * c)) = W * W + e1 * (c * c - s * s) + e2 * (c * s + s * c) := by
    rw [← eW, he1, he2]; clear p11 p12 p21 p22 b1 b2 w1 w2 hu hv h1 h2; grind
  have eI : 2147483648 * (v * -(c * s + s * c) + u * (c * c - s * s)) = e2 * (c * c - s * s) - e1 * (c * s + s * c) := by
    rw [he1, he2]; clear p11 p12 p21 p22 b1 b2 w1 w2 hu hv h1 h2 eR; grind
  have hWW : 1152921435887370240 * W ≤ W * W := Int.mul_le_mul_of_nonneg_right (by omega) (by omega)
  refine ⟨?_, ?_, ?_⟩
  · show 0 < v * (c * c - s * s) - u * -(c * s + s * c)
    omega
  · show -(80000000000000000000 * (v * (c * c - s * s) - u * -(c * s + s * c))) ≤ DD * (v * -(c * s + s * c) + u * (c * c - s * s))
    unfold DD; omega
  · show DD * (v * -(c * s + s * c) + u * (c * c - s * s)) ≤ 80000000000000000000 * (v * (c * c - s * s) - u * -(c * s + s * c))
    unfold DD; omega
/-- Whole turns. -/
theorem turns_2pi (k : Int) (h : -2 ≤ k ∧ k ≤ 2) : Cone 2900000000000000000 (PZ (3373259426 * k)) := by
  have one : (G.mk 1 0).conj = G.mk 1 0 := rfl
  have p1 := at_2pi
  rw [one, G.mul_comm, G.one_mul] at p1
  have n1 := p1.conj
  rw [← PZ_neg] at n1
  have p0 : Cone 1400000000000000000 ((PZ 3373259426).mul (G.mk 1 0)) := by rw [G.mul_comm, G.one_mul]; exact p1
  have n0 : Cone 1400000000000000000 ((PZ (-3373259426)).mul (G.mk 1 0)) := by rw [G.mul_comm, G.one_mul]; exact n1
  have p2 := p0.sum p0 (by decide) (by decide)
  have n2 := n0.sum n0 (by decide) (by decide)
  rw [G.one_mul, G.mul_comm, G.one_mul] at p2 n2
  rcases (by omega : k = -2 ∨ k = -1 ∨ k = 0 ∨ k = 1 ∨ k = 2) with rfl | rfl | rfl | rfl | rfl
  · exact n2.mono (by decide)
  · exact n1.mono (by decide)
  · exact coneB_spec (by decide +kernel)
  · exact p1.mono (by decide)
  · exact p2.mono (by decide)
/-- The angle of a doubled direction is the doubled angle, but for whole turns. -/
theorem double_law {c s u v : Wd} (hc : -2147483648 < c.v) (hs : -2147483648 < s.v) (hu0 : -2147483648 < u.v) (hv0 : -2147483648 < v.v) (h1 : c.v * c.v + s.v * s.v - 1152921504606846976 < 68719476736) (h2 : -68719476736 < c.v * c.v + s.v * s.v - 1152921504606846976)
    (hu : -536870912 ≤ 1073741824 * u.v - c.v * s.v ∧ 1073741824 * u.v - c.v * s.v ≤ 536870912) (hv : -536870912 ≤ 1073741824 * (536870912 - v.v) - s.v * s.v ∧ 1073741824 * (536870912 - v.v) - s.v * s.v ≤ 536870912) :
    ∃ a t : Int, (angleW u v).v = a ∧ (angleW s c).v = t ∧ -1686629929 ≤ a ∧ a ≤ 1686629929 ∧ -1686629929 ≤ t ∧ t ≤ 1686629929 ∧ ∀ k : Int, -2 ≤ k → k ≤ 2 → -1686629713 ≤ a - 2 * t - 3373259426 * k → a - 2 * t - 3373259426 * k ≤ 1686629713 → -800 ≤ a - 2 * t - 3373259426 * k ∧ a - 2 * t - 3373259426 * k ≤ 800 := by
  have hd := dir_double h1 h2 hu hv
  have nz1 : v.v ≠ 0 ∨ u.v ≠ 0 := by
    refine Classical.byContradiction (fun hn => ?_)
    have e1 : v.v = 0 := Classical.byContradiction (fun h => hn (.inl h))
    have e2 : u.v = 0 := Classical.byContradiction (fun h => hn (.inr h))
    rw [e1, e2] at hd
    have := hd.1
    simp [G.mul, G.conj] at this
  have nz2 : c.v ≠ 0 ∨ s.v ≠ 0 := by
    refine Classical.byContradiction (fun hn => ?_)
    have e1 : c.v = 0 := Classical.byContradiction (fun h => hn (.inl h))
    have e2 : s.v = 0 := Classical.byContradiction (fun h => hn (.inr h))
    rw [e1, e2] at h2
    omega
  obtain ⟨a, ea, ca, a0, a1, _⟩ := angle_near hv0 hu0 nz1
  obtain ⟨t, et, ct, t0, t1, _⟩ := angle_near hc hs nz2
  refine ⟨a, t, ea, et, a0, a1, t0, t1, fun k k0 k1 r0 r1 => ?_⟩
  -- the directions together
  have hp1 : 0 < (G.mk v.v u.v).sq := by
    have s1 := sq_nonneg v.v
    have s2 := sq_nonneg u.v
    show 0 < v.v * v.v + u.v * u.v
    rcases nz1 with h | h
    · have : 0 < v.v * v.v := by
        rcases Int.lt_or_gt_of_ne h with h | h
        · exact Int.mul_pos_of_neg_of_neg h h
        · exact Int.mul_pos h h
      omega
    · have : 0 < u.v * u.v := by
        rcases Int.lt_or_gt_of_ne h with h | h
        · exact Int.mul_pos_of_neg_of_neg h h
        · exact Int.mul_pos h h
      omega
  have c1 := ca.mul' hd (by decide) (by decide)
  rw [G.re_mul_conj] at c1
  have c2 := c1.of_by hp1
  have t2 := ct.sum ct (by decide) (by decide)
  have t3 := t2.negate
  rw [← G.conj_mul, G.conj_conj] at t3
  have sm := c2.sum t3 (by decide) (by decide)
  have hp2 : 0 < ((G.mk c.v s.v).mul (G.mk c.v s.v)).sq := by
    have e : ((G.mk c.v s.v).mul (G.mk c.v s.v)).sq = (c.v * c.v + s.v * s.v) * (c.v * c.v + s.v * s.v) := by unfold G.sq G.mul; simp only []; grind
    rw [e]
    exact Int.mul_pos (by omega) (by omega)
  rw [G.mul_comm ((G.mk c.v s.v).mul (G.mk c.v s.v)).conj, G.mul_conj, G.mul_comm _ (G.mk _ 0), G.real_mul] at sm
  have s1 := sm.of_by hp2
  have s2 : Cone 1600000000000000000000 ((PZ (a + -(t + t))).mul (G.mk 1 0)) := by rw [G.mul_comm, G.one_mul]; exact s1.mono (by decide)
  have q := turns_2pi (-k) (by omega)
  have q2 : Cone 2900000000000000000 ((PZ (3373259426 * -k)).mul (G.mk 1 0)) := by rw [G.mul_comm, G.one_mul]; exact q
  have f := s2.sum q2 (by decide) (by decide)
  rw [G.one_mul, G.mul_comm, G.one_mul, show a + -(t + t) + 3373259426 * -k = a - 2 * t - 3373259426 * k by omega] at f
  have g := near_none f (by decide) (by omega)
  unfold DD at g
  omega
end Go.Proofs.YtbmfcedndbgpoaaGreat

/- Who is turned about the pull has that yaw: the plain law. -/
namespace Go.Proofs.YtbmfcedndbgpoaaGreat
open Go.RowKit Go.Deep
set_option linter.unusedVariables false
theorem y_kW0 : kW 0 = Z0 := by apply Wd.ext_; decide +kernel
theorem y_addr (x : Wd) : addsW x Z0 = x := by
  apply Wd.ext_
  have := x.ok
  unfold In32 at this
  show satI (x.v + 0) = x.v
  unfold satI
  omega
theorem y_subr (x : Wd) : subsW x Z0 = x := by
  apply Wd.ext_
  have := x.ok
  unfold In32 at this
  show satI (x.v - 0) = x.v
  unfold satI
  omega
def HALF : Wd := kW 536870912
theorem yaw_u (c s : Wd) : anglesU c Z0 Z0 s = mulqW c s := by
  show addsW (mulqW c s) (mulqW Z0 Z0) = _
  rw [mulq_zl rfl, y_addr]
theorem yaw_v (c s : Wd) : anglesV c Z0 Z0 s = subsW HALF (mulqW s s) := by
  show subsW (subsW (kW 536870912) (mulqW Z0 Z0)) (mulqW s s) = _
  rw [mulq_zl rfl, y_subr]; rfl
theorem yaw_y (c s : Wd) : anglesY c Z0 Z0 s = Z0 := by
  show addsW (mulqW c Z0) (mulqW Z0 s) = _
  rw [mulq_zr rfl, mulq_zl rfl, y_addr]
theorem yaw_x (c s : Wd) : anglesX c Z0 Z0 s = HALF := by
  show subsW (subsW (kW 536870912) (mulqW Z0 Z0)) (mulqW Z0 Z0) = _
  rw [mulq_zl rfl, y_subr, y_subr]; rfl
theorem yaw_s (c s : Wd) : anglesS c Z0 Z0 s = Z0 := by
  show subsW (mulqW c Z0) (mulqW s Z0) = _
  rw [mulq_zr rfl, mulq_zr rfl, y_subr]
theorem yaw_r (c s : Wd) : anglesR c Z0 Z0 s = sqrtW (normW HALF [Z0]) := by unfold anglesR; rw [yaw_x, yaw_y]
theorem yaw_lock (c s : Wd) : lockB c Z0 Z0 s = false := by
  unfold lockB lockedW
  rw [yaw_s]
  decide +kernel
theorem yaw_roll : -8192 < (angleW Z0 HALF).v ∧ (angleW Z0 HALF).v < 8192 := by decide +kernel
theorem yaw_pitch : -8192 < (angleW Z0 (sqrtW (normW HALF [Z0]))).v ∧ (angleW Z0 (sqrtW (normW HALF [Z0]))).v < 8192 := by decide +kernel
/-- What is left of a number of a few turns. -/
theorem turned_near {a t : Int} (ha : -1686629929 ≤ a ∧ a ≤ 1686629929) (ht : -1686629929 ≤ t ∧ t ≤ 1686629929)
    (h : ∀ k : Int, -2 ≤ k → k ≤ 2 → -1686629713 ≤ a - 2 * t - 3373259426 * k → a - 2 * t - 3373259426 * k ≤ 1686629713 → -800 ≤ a - 2 * t - 3373259426 * k ∧ a - 2 * t - 3373259426 * k ≤ 800) :
    -8192 < turnedI (a - 2 * t) ∧ turnedI (a - 2 * t) < 8192 := by
  unfold turnedI
  generalize hd : a - 2 * t = d at *
  have hb : -5059889787 ≤ d ∧ d ≤ 5059889787 := by omega
  clear hd ha ht
  split
  · have hk := h ((d - 1686629713 + 3373259425) / 3373259426) (by omega) (by omega) (by omega) (by omega)
    omega
  · split
    · have hk := h (-((-1686629713 - d + 3373259425) / 3373259426)) (by omega) (by omega) (by omega) (by omega)
      omega
    · have hk := h 0 (by omega) (by omega) (by omega) (by omega)
      omega
theorem double_is (c s : Wd) (hc : -1342177280 ≤ c.v ∧ c.v ≤ 1342177280) (hs : -1342177280 ≤ s.v ∧ s.v ≤ 1342177280) (h1 : c.v * c.v + s.v * s.v - 1152921504606846976 < 68719476736) (h2 : -68719476736 < c.v * c.v + s.v * s.v - 1152921504606846976) :
    -8192 < turnedI ((angleW (mulqW c s) (subsW HALF (mulqW s s))).v - 2 * (angleW s c).v) ∧ turnedI ((angleW (mulqW c s) (subsW HALF (mulqW s s))).v - 2 * (angleW s c).v) < 8192 := by
  have p := mul_bd hc hs
  have p2 := mul_bd hs hs
  have pn := sq_nonneg s.v
  have hu : (mulqW c s).v = satI (c.v * s.v / 1073741824 + c.v * s.v / 536870912 % 2) := rfl
  have hm : (mulqW s s).v = satI (s.v * s.v / 1073741824 + s.v * s.v / 536870912 % 2) := rfl
  have hv : (subsW HALF (mulqW s s)).v = satI (536870912 - (mulqW s s).v) := by
    show satI (HALF.v - _) = _
    rw [show HALF.v = 536870912 from kW_v (by decide)]
  rw [hm] at hv
  obtain ⟨a, t, e1, e2, a0, a1, t0, t1, hk⟩ := double_law (c := c) (s := s) (u := mulqW c s) (v := subsW HALF (mulqW s s)) (by omega) (by omega)
    (by rw [hu]; unfold satI; generalize c.v * s.v = x at *; omega)
    (by rw [hv]; unfold satI; generalize s.v * s.v = x at *; omega) h1 h2
    (by rw [hu]; unfold satI; generalize c.v * s.v = x at *; omega)
    (by rw [hv]; unfold satI; generalize s.v * s.v = x at *; omega)
  rw [e1, e2]
  exact turned_near ⟨a0, a1⟩ ⟨t0, t1⟩ hk
end Go.Proofs.YtbmfcedndbgpoaaGreat

/- The bounds of all angles, and the contrary quaternion. -/
namespace Go.Proofs.YtbmfcedndbgpoaaGreat
open Go.RowKit
set_option linter.unusedVariables false
theorem nW_ok (a : Wd) : In32 (wrap32 (-a.v)) := in_wrap _
/-- A word turned round, as Go does. -/
def nW (a : Wd) : Wd := ⟨wrap32 (-a.v), nW_ok a⟩
theorem nW_v {a : Wd} (h : -2147483648 < a.v) : (nW a).v = -a.v := by
  have := a.ok
  unfold In32 at this
  show wrap32 (-a.v) = _
  unfold wrap32
  omega
theorem mulq_nn {a b : Wd} (ha : -2147483648 < a.v) (hb : -2147483648 < b.v) : mulqW (nW a) (nW b) = mulqW a b := by
  apply Wd.ext_
  show mulqI (nW a).v (nW b).v = mulqI a.v b.v
  rw [nW_v ha, nW_v hb]
  unfold mulqI
  rw [Int.neg_mul_neg]
theorem angles_contrary {a b c d : Wd} (ha : -2147483648 < a.v) (hb : -2147483648 < b.v) (hc : -2147483648 < c.v) (hd : -2147483648 < d.v) :
    anglesW (nW a) (nW b) (nW c) (nW d) = anglesW a b c d ∧ lockedW (nW a) (nW b) (nW c) (nW d) = lockedW a b c d := by
  have e1 : anglesY (nW a) (nW b) (nW c) (nW d) = anglesY a b c d := by unfold anglesY; rw [mulq_nn ha hb, mulq_nn hc hd]
  have e2 : anglesX (nW a) (nW b) (nW c) (nW d) = anglesX a b c d := by unfold anglesX; rw [mulq_nn hb hb, mulq_nn hc hc]
  have e3 : anglesS (nW a) (nW b) (nW c) (nW d) = anglesS a b c d := by unfold anglesS; rw [mulq_nn ha hc, mulq_nn hd hb]
  have e4 : anglesU (nW a) (nW b) (nW c) (nW d) = anglesU a b c d := by unfold anglesU; rw [mulq_nn ha hd, mulq_nn hb hc]
  have e5 : anglesV (nW a) (nW b) (nW c) (nW d) = anglesV a b c d := by unfold anglesV; rw [mulq_nn hc hc, mulq_nn hd hd]
  have e6 : anglesR (nW a) (nW b) (nW c) (nW d) = anglesR a b c d := by unfold anglesR; rw [e1, e2]
  constructor
  · unfold anglesW; rw [e1, e2, e3, e4, e5, e6]
  · unfold lockedW; rw [e3]
/-- A product of two parts, not cut. -/
theorem m_is {a b : Wd} (ha : -1073741857 ≤ a.v ∧ a.v ≤ 1073741857) (hb : -1073741857 ≤ b.v ∧ b.v ≤ 1073741857) : -536870912 ≤ 1073741824 * (mulqW a b).v - a.v * b.v ∧ 1073741824 * (mulqW a b).v - a.v * b.v ≤ 536870912 ∧ -1073741891 ≤ (mulqW a b).v ∧ (mulqW a b).v ≤ 1073741891 := by
  have h := mul_bd ha hb
  rw [mulq_is (by omega)]
  generalize a.v * b.v = P at *
  omega
/-- Each part of a quaternion of the norm 1. -/
theorem isQ_parts {a b c d : Wd} (h : IsQ a b c d) : (-1073741857 ≤ a.v ∧ a.v ≤ 1073741857) ∧ (-1073741857 ≤ b.v ∧ b.v ≤ 1073741857) ∧ (-1073741857 ≤ c.v ∧ c.v ≤ 1073741857) ∧ (-1073741857 ≤ d.v ∧ d.v ≤ 1073741857) := by
  obtain ⟨_, _, _, _, n1, n0⟩ := h
  have s0 := sq_nonneg a.v
  have s1 := sq_nonneg b.v
  have s2 := sq_nonneg c.v
  have s3 := sq_nonneg d.v
  exact ⟨abs_of_sq (by decide) (by omega), abs_of_sq (by decide) (by omega), abs_of_sq (by decide) (by omega), abs_of_sq (by decide) (by omega)⟩
/-- Two products, together. -/
theorem two_is {x y : Int} {a b c d n : Int} (h : a * a + b * b + c * c + d * d = n) (hn : n ≤ 1152921573326323712) : -576460786663161856 ≤ a * b + c * d ∧ a * b + c * d ≤ 576460786663161856 := by
  have p := sq_nonneg (a + b)
  have q := sq_nonneg (a - b)
  have p' := sq_nonneg (c + d)
  have q' := sq_nonneg (c - d)
  have e1 : (a + b) * (a + b) = a * a + b * b + 2 * (a * b) := by grind
  have e2 : (a - b) * (a - b) = a * a + b * b - 2 * (a * b) := by grind
  have e3 : (c + d) * (c + d) = c * c + d * d + 2 * (c * d) := by grind
  have e4 : (c - d) * (c - d) = c * c + d * d - 2 * (c * d) := by grind
  omega
/-- The parts that angles are of. -/
theorem parts_is {a b c d : Wd} (h : IsQ a b c d) : ∃ y x s : Int, (anglesY a b c d).v = y ∧ (anglesX a b c d).v = x ∧ (anglesS a b c d).v = s ∧
    (-1073741824 ≤ 1073741824 * y - (a.v * b.v + c.v * d.v) ∧ 1073741824 * y - (a.v * b.v + c.v * d.v) ≤ 1073741824) ∧
    (-1073741824 ≤ 1073741824 * (536870912 - x) - (b.v * b.v + c.v * c.v) ∧ 1073741824 * (536870912 - x) - (b.v * b.v + c.v * c.v) ≤ 1073741824) ∧
    (-1073741824 ≤ 1073741824 * s - (a.v * c.v - d.v * b.v) ∧ 1073741824 * s - (a.v * c.v - d.v * b.v) ≤ 1073741824) ∧
    (-536870947 ≤ y ∧ y ≤ 536870947) ∧ (-536870979 ≤ x ∧ x ≤ 536870915) ∧ (-536870947 ≤ s ∧ s ≤ 536870947) := by
  obtain ⟨pa, pb, pc, pd⟩ := isQ_parts h
  obtain ⟨_, _, _, _, n1, n0⟩ := h
  have s0 := sq_nonneg a.v
  have s1 := sq_nonneg b.v
  have s2 := sq_nonneg c.v
  have s3 := sq_nonneg d.v
  obtain ⟨u1, u2, u3, u4⟩ := m_is pa pb
  obtain ⟨v1, v2, v3, v4⟩ := m_is pc pd
  obtain ⟨w1, w2, w3, w4⟩ := m_is pb pb
  obtain ⟨x1, x2, x3, x4⟩ := m_is pc pc
  obtain ⟨y1, y2, y3, y4⟩ := m_is pa pc
  obtain ⟨z1, z2, z3, z4⟩ := m_is pd pb
  have t1 := two_is (x := 0) (y := 0) (a := a.v) (b := b.v) (c := c.v) (d := d.v) rfl (by omega)
  have t2 := two_is (x := 0) (y := 0) (a := a.v) (b := c.v) (c := d.v) (d := -b.v) (by rw [Int.neg_mul_neg]) (by omega)
  have e2 : a.v * c.v + d.v * -b.v = a.v * c.v - d.v * b.v := by rw [Int.mul_neg]; omega
  rw [e2] at t2
  have kk : (kW 536870912).v = 536870912 := kW_v (by decide)
  have ey : (anglesY a b c d).v = (mulqW a b).v + (mulqW c d).v := adds_is (by omega)
  have es : (anglesS a b c d).v = (mulqW a c).v - (mulqW d b).v := subs_is (by omega)
  have ex1 : (subsW (kW 536870912) (mulqW b b)).v = 536870912 - (mulqW b b).v := by rw [subs_is (by rw [kk]; omega), kk]
  have ex : (anglesX a b c d).v = 536870912 - (mulqW b b).v - (mulqW c c).v := by
    show (subsW (subsW (kW 536870912) (mulqW b b)) (mulqW c c)).v = _
    rw [subs_is (by rw [ex1]; omega), ex1]
  refine ⟨_, _, _, ey, ex, es, ?_⟩
  omega
/-- All angles' bounds. -/
theorem euler_law {a b c d : Wd} (h : IsQ a b c d) :
    (-1686629929 ≤ (anglesW a b c d).a.v ∧ (anglesW a b c d).a.v ≤ 1686629929) ∧ (-843315073 ≤ (anglesW a b c d).b.v ∧ (anglesW a b c d).b.v ≤ 843315073) := by
  obtain ⟨y, x, s, ey, ex, es, hy, hx, hs, by', bx, bs⟩ := parts_is h
  obtain ⟨_, _, _, _, n1, n0⟩ := h
  constructor
  · -- roll
    show -1686629929 ≤ (angleW (anglesY a b c d) (anglesX a b c d)).v ∧ (angleW (anglesY a b c d) (anglesX a b c d)).v ≤ 1686629929
    by_cases h0 : (anglesX a b c d).v ≠ 0 ∨ (anglesY a b c d).v ≠ 0
    · obtain ⟨r, er, _, r0, r1, _⟩ := angle_near (y := anglesY a b c d) (x := anglesX a b c d) (by omega) (by omega) h0
      rw [er]
      exact ⟨r0, r1⟩
    · have e1 : anglesX a b c d = kW 0 := Wd.ext_ (by
        rw [kW_v (by decide)]
        exact Classical.byContradiction (fun h => h0 (.inl h)))
      have e2 : anglesY a b c d = kW 0 := Wd.ext_ (by
        rw [kW_v (by decide)]
        exact Classical.byContradiction (fun h => h0 (.inr h)))
      rw [e1, e2]
      decide +kernel
  · -- pitch
    show -843315073 ≤ (angleW (anglesS a b c d) (anglesR a b c d)).v ∧ (angleW (anglesS a b c d) (anglesR a b c d)).v ≤ 843315073
    have hN : ∃ N : Wd, normW (anglesX a b c d) [anglesY a b c d] = N ∧ 0 ≤ N.v ∧ (N.v < 256 → -524803 ≤ x ∧ x ≤ 524803 ∧ -524803 ≤ y ∧ y ≤ 524803) := by
      refine ⟨_, rfl, ?_⟩
      have bX := mul_bd (a := x) (b := x) (A := 536870979) (B := 536870979) (by omega) (by omega)
      have bY := mul_bd (a := y) (b := y) (A := 536870979) (B := 536870979) (by omega) (by omega)
      obtain ⟨p0, p1, p2⟩ := sq_is (g := anglesX a b c d) (by rw [ex]; omega)
      obtain ⟨q0, q1, q2⟩ := sq_is (g := anglesY a b c d) (by rw [ey]; omega)
      rw [ex] at p1 p2
      rw [ey] at q1 q2
      have e : (normW (anglesX a b c d) [anglesY a b c d]).v = (mulqW (anglesX a b c d) (anglesX a b c d)).v + (mulqW (anglesY a b c d) (anglesY a b c d)).v := adds_is (by omega)
      rw [e]
      refine ⟨by omega, fun hlt => ?_⟩
      have hX := abs_of_sq (A := x) (M := 524803) (by decide) (by omega)
      have hY := abs_of_sq (A := y) (M := 524803) (by decide) (by omega)
      omega
    obtain ⟨N, eN, N0, N1⟩ := hN
    have eR : anglesR a b c d = sqrtW N := by unfold anglesR; rw [eN]
    rw [eR]
    have hR := sqrt_nonneg N0
    have okR := (sqrtW N).ok
    unfold In32 at okR
    by_cases h0 : (sqrtW N).v ≠ 0 ∨ (anglesS a b c d).v ≠ 0
    · obtain ⟨r, er, _, _, _, r2⟩ := angle_near (y := anglesS a b c d) (x := sqrtW N) (by omega) (by omega) h0
      rw [er]
      exact r2 hR
    · exfalso
      have z1 : (sqrtW N).v = 0 := Classical.byContradiction (fun h => h0 (.inl h))
      have z2 : s = 0 := by rw [← es]; exact Classical.byContradiction (fun h => h0 (.inr h))
      have hN256 : N.v < 256 := Int.not_le.1 (fun h => by have := sqrt_pos h; omega)
      obtain ⟨x0, x1, y0, y1⟩ := N1 hN256
      subst z2
      -- the identity
      obtain ⟨A, hA⟩ : ∃ A, A = a.v * c.v - d.v * b.v := ⟨_, rfl⟩
      obtain ⟨B, hB⟩ : ∃ B, B = a.v * b.v + c.v * d.v := ⟨_, rfl⟩
      obtain ⟨C, hC⟩ : ∃ C, C = b.v * b.v + c.v * c.v := ⟨_, rfl⟩
      obtain ⟨E, hE⟩ : ∃ E, E = a.v * a.v + d.v * d.v := ⟨_, rfl⟩
      have id4 : A * A + B * B = E * C := by rw [hA, hB, hC, hE]; clear hA hB hC hE hy hx hs n1 n0; grind
      rw [← hA] at hs
      rw [← hB] at hy
      rw [← hC] at hx
      have nE : a.v * a.v + b.v * b.v + c.v * c.v + d.v * d.v = E + C := by rw [hC, hE]; omega
      rw [nE] at n0 n1
      have qA := mul_bd (a := A) (b := A) (A := 1073741824) (B := 1073741824) (by omega) (by omega)
      have qB := mul_bd (a := B) (b := B) (A := 563600000000000) (B := 563600000000000) (by omega) (by omega)
      have qC : 500000000000000000 ≤ C := by omega
      have qE : 500000000000000000 ≤ E := by omega
      have : 500000000000000000 * 500000000000000000 ≤ E * C := Int.mul_le_mul qE qC (by decide) (by omega)
      omega
end Go.Proofs.YtbmfcedndbgpoaaGreat

/- Who is turned about the first axis has that roll: the plain law. -/
namespace Go.Proofs.YtbmfcedndbgpoaaGreat
open Go.RowKit Go.Deep
set_option linter.unusedVariables false
theorem roll_y (c s : Wd) : anglesY c s Z0 Z0 = mulqW c s := by
  show addsW (mulqW c s) (mulqW Z0 Z0) = _
  rw [mulq_zl rfl, y_addr]
theorem roll_x (c s : Wd) : anglesX c s Z0 Z0 = subsW HALF (mulqW s s) := by
  show subsW (subsW (kW 536870912) (mulqW s s)) (mulqW Z0 Z0) = _
  rw [mulq_zl rfl, y_subr]; rfl
theorem roll_u (c s : Wd) : anglesU c s Z0 Z0 = Z0 := by
  show addsW (mulqW c Z0) (mulqW s Z0) = _
  rw [mulq_zr rfl, mulq_zr rfl, y_addr]
theorem roll_v (c s : Wd) : anglesV c s Z0 Z0 = HALF := by
  show subsW (subsW (kW 536870912) (mulqW Z0 Z0)) (mulqW Z0 Z0) = _
  rw [mulq_zl rfl, y_subr, y_subr]; rfl
theorem roll_s (c s : Wd) : anglesS c s Z0 Z0 = Z0 := by
  show subsW (mulqW c Z0) (mulqW Z0 s) = _
  rw [mulq_zr rfl, mulq_zl rfl, y_subr]
theorem roll_lock (c s : Wd) : lockB c s Z0 Z0 = false := by
  unfold lockB lockedW
  rw [roll_s]
  decide +kernel
/-- The angle of what lies ahead. -/
theorem ahead_angle {R : Wd} (h : 0 < R.v) : -8192 < (angleW Z0 R).v ∧ (angleW Z0 R).v < 8192 := by
  obtain ⟨a, ea, ca, _, _, a1⟩ := angle_near (y := Z0) (x := R) (by omega) (by decide) (.inl (by omega))
  have a2 := a1 (by omega)
  rw [ea]
  have e : (G.mk R.v Z0.v).conj = G.mk R.v 0 := rfl
  rw [e, G.mul_comm, G.real_mul] at ca
  have g := near_none (ca.of_by h) (by decide) (by omega)
  unfold DD at g
  omega
/-- The squares of the parts of a doubled direction. -/
theorem double_far {c s x y : Int} (h1 : c * c + s * s - 1152921504606846976 < 68719476736) (h2 : -68719476736 < c * c + s * s - 1152921504606846976)
    (hx : -536870912 ≤ 1073741824 * (536870912 - x) - s * s ∧ 1073741824 * (536870912 - x) - s * s ≤ 536870912)
    (hy : -536870912 ≤ 1073741824 * y - c * s ∧ 1073741824 * y - c * s ≤ 536870912) (bx : -524803 ≤ x ∧ x ≤ 524803) (bY : -524803 ≤ y ∧ y ≤ 524803) : False := by
  have e : (c * c) * (s * s) = (c * s) * (c * s) := by grind
  have b1 : -600000000000000 ≤ c * s ∧ c * s ≤ 600000000000000 := by omega
  have b2 := mul_bd b1 b1
  have b3 : (288230376151711744 : Int) ≤ s * s := by omega
  have b4 : (288230376151711744 : Int) ≤ c * c := by omega
  have b5 := Int.mul_le_mul b4 b3 (by decide) (by omega)
  rw [e] at b5
  omega
theorem roll_pitch (c s : Wd) (hc : -1342177280 ≤ c.v ∧ c.v ≤ 1342177280) (hs : -1342177280 ≤ s.v ∧ s.v ≤ 1342177280) (h1 : c.v * c.v + s.v * s.v - 1152921504606846976 < 68719476736) (h2 : -68719476736 < c.v * c.v + s.v * s.v - 1152921504606846976) :
    -8192 < (angleW Z0 (anglesR c s Z0 Z0)).v ∧ (angleW Z0 (anglesR c s Z0 Z0)).v < 8192 := by
  have pc := sq_nonneg c.v
  have ps := sq_nonneg s.v
  have hcs : -576460786663161856 ≤ c.v * s.v ∧ c.v * s.v ≤ 576460786663161856 := by
    have := two_is (x := 0) (y := 0) (a := c.v) (b := s.v) (c := 0) (d := 0) (n := c.v * c.v + s.v * s.v) (by omega) (by omega)
    omega
  have hm : (mulqW s s).v = satI (s.v * s.v / 1073741824 + s.v * s.v / 536870912 % 2) := rfl
  have hv : (subsW HALF (mulqW s s)).v = satI (536870912 - (mulqW s s).v) := by
    show satI (HALF.v - _) = _
    rw [show HALF.v = 536870912 from kW_v (by decide)]
  rw [hm] at hv
  have hu : (mulqW c s).v = satI (c.v * s.v / 1073741824 + c.v * s.v / 536870912 % 2) := rfl
  obtain ⟨x, ex, hx, bx⟩ : ∃ x : Int, (anglesX c s Z0 Z0).v = x ∧ (-536870912 ≤ 1073741824 * (536870912 - x) - s.v * s.v ∧ 1073741824 * (536870912 - x) - s.v * s.v ≤ 536870912) ∧ (-536870979 ≤ x ∧ x ≤ 536870979) := by
    refine ⟨_, by rw [roll_x], ?_⟩
    rw [hv]
    unfold satI
    generalize s.v * s.v = p at *
    omega
  obtain ⟨y, ey, hy, bY⟩ : ∃ y : Int, (anglesY c s Z0 Z0).v = y ∧ (-536870912 ≤ 1073741824 * y - c.v * s.v ∧ 1073741824 * y - c.v * s.v ≤ 536870912) ∧ (-536870979 ≤ y ∧ y ≤ 536870979) := by
    refine ⟨_, by rw [roll_y], ?_⟩
    rw [hu]
    unfold satI
    generalize c.v * s.v = p at *
    omega
  have hN : 256 ≤ (normW (anglesX c s Z0 Z0) [anglesY c s Z0 Z0]).v := by
    have bX := mul_bd (a := x) (b := x) (A := 536870979) (B := 536870979) (by omega) (by omega)
    have bY' := mul_bd (a := y) (b := y) (A := 536870979) (B := 536870979) (by omega) (by omega)
    obtain ⟨p0, p1, p2⟩ := sq_is (g := anglesX c s Z0 Z0) (by rw [ex]; omega)
    obtain ⟨q0, q1, q2⟩ := sq_is (g := anglesY c s Z0 Z0) (by rw [ey]; omega)
    rw [ex] at p1 p2
    rw [ey] at q1 q2
    have e : (normW (anglesX c s Z0 Z0) [anglesY c s Z0 Z0]).v = (mulqW (anglesX c s Z0 Z0) (anglesX c s Z0 Z0)).v + (mulqW (anglesY c s Z0 Z0) (anglesY c s Z0 Z0)).v := adds_is (by omega)
    refine Classical.byContradiction (fun hn => ?_)
    have hlt : (normW (anglesX c s Z0 Z0) [anglesY c s Z0 Z0]).v < 256 := by omega
    rw [e] at hlt
    have hX := abs_of_sq (A := x) (M := 524803) (by decide) (by omega)
    have hY := abs_of_sq (A := y) (M := 524803) (by decide) (by omega)
    exact double_far h1 h2 hx hy hX hY
  have hp := sqrt_pos hN
  exact ahead_angle hp
end Go.Proofs.YtbmfcedndbgpoaaGreat

/- EulerYaw, EulerRoll: the runs' obligations hold. -/
namespace Go.Proofs.YtbmfcedndbgpoaaGreat.Xi
open Go Go.RowKit
set_option linter.unusedVariables false
theorem wr64 {x : Int} (h : -9223372036854775808 ≤ x ∧ x ≤ 9223372036854775807) : IntKind.i64.wrap x = x := by
  simp only [IntKind.wrap, IntKind.bits, IntKind.signed]
  simp
  omega
theorem nearO_ok {x : Int} (h : -8192 < x ∧ x < 8192) : ObOk Tryz.prog (nearO x) := fun w =>
  (near_yes x w h.1 h.2).mono fun e w' ⟨he, hw⟩ => ⟨he, hw ▸ Chg.refl w []⟩
theorem awO_ok : ObOk Tryz.prog awO := fun w => awake35_calls w
theorem isO_ok {a b c d : Wd} {r : Bool} (h : isB a b c d = r) : ObOk Tryz.prog (isO a.v b.v c.v d.v r) := fun w => by
  have := is_calls a b c d w
  rw [h] at this
  exact this
theorem notO_ok {l : Bool} (h : l = false) : ObOk Tryz.prog (notO l) := by
  subst h
  intro w
  rfl
theorem near32 (x : Wd) : IntKind.i64.wrap x.v = x.v := wr64 (by have := x.ok; unfold In32 at this; omega)
theorem far2_is (a t : Wd) : far2 a.v t.v = turnedI (a.v - 2 * t.v) := by
  unfold far2
  have ha := a.ok
  have ht := t.ok
  unfold In32 at ha ht
  rw [wr64 (x := t.v) (by omega), wr64 (x := a.v) (by omega), wr64 (x := 2 * t.v) (by omega), wr64 (by omega)]
theorem yawA_is (c s : Wd) : yawA c s = anglesW c Z0 Z0 s := by unfold yawA; rw [kW_self, kW_self, y_kW0]
theorem rollA_is (c s : Wd) : rollA c s = anglesW c s Z0 Z0 := by unfold rollA; rw [kW_self, kW_self, y_kW0]
theorem goodL_2 (c s : Wd) : goodL [.int .i32 c.v, .int .i32 s.v] := fun v hv => by
  simp at hv
  rcases hv with rfl | rfl
  · exact good_w c
  · exact good_w s
theorem eulerYaw_calls (c s : Wd) (w : World) : Calls Tryz.prog 5 #[.int .i32 c.v, .int .i32 s.v] w fun e w' => e = .returned (.bool true) ∧ Chg w w' [] := by
  by_cases hq : IsQ c Z0 Z0 s
  · have hi := isB_yes hq
    obtain ⟨r0, _, _, r3, n0, n1⟩ := hq
    have z : Z0.v = 0 := rfl
    rw [z] at n0 n1
    have dl := double_is c s r0 r3 (by omega) (by omega)
    refine cxR_calls _ (yaw_run1 c s) (goodL_2 c s) (obsC awO_ok (obsC (notO_ok ?_) (obsC (nearO_ok ?_) (obsC (nearO_ok ?_) (obsC (nearO_ok ?_) (obs1 (isO_ok (b := Z0) (c := Z0) hi))))))) w
    · rw [kW_self, kW_self, y_kW0, yaw_lock]
    · rw [near32, yawA_is]
      show -8192 < (angleW (anglesS c Z0 Z0 s) (anglesR c Z0 Z0 s)).v ∧ (angleW (anglesS c Z0 Z0 s) (anglesR c Z0 Z0 s)).v < 8192
      rw [yaw_s, yaw_r]
      exact yaw_pitch
    · rw [near32, yawA_is]
      show -8192 < (angleW (anglesY c Z0 Z0 s) (anglesX c Z0 Z0 s)).v ∧ (angleW (anglesY c Z0 Z0 s) (anglesX c Z0 Z0 s)).v < 8192
      rw [yaw_y, yaw_x]
      exact yaw_roll
    · rw [far2_is, yawA_is, kW_self, kW_self]
      show -8192 < turnedI ((angleW (anglesU c Z0 Z0 s) (anglesV c Z0 Z0 s)).v - 2 * (angleW s c).v) ∧ turnedI ((angleW (anglesU c Z0 Z0 s) (anglesV c Z0 Z0 s)).v - 2 * (angleW s c).v) < 8192
      rw [yaw_u, yaw_v]
      exact dl
  · exact cxR_calls _ (yaw_run0 c s) (goodL_2 c s) (obsC awO_ok (obs1 (isO_ok (b := Z0) (c := Z0) (isB_no hq)))) w
theorem eulerRoll_calls (c s : Wd) (w : World) : Calls Tryz.prog 6 #[.int .i32 c.v, .int .i32 s.v] w fun e w' => e = .returned (.bool true) ∧ Chg w w' [] := by
  by_cases hq : IsQ c s Z0 Z0
  · have hi := isB_yes hq
    obtain ⟨r0, r1, _, _, n0, n1⟩ := hq
    have z : Z0.v = 0 := rfl
    rw [z] at n0 n1
    have dl := double_is c s r0 r1 (by omega) (by omega)
    have pl := roll_pitch c s r0 r1 (by omega) (by omega)
    refine cxR_calls _ (roll_run1 c s) (goodL_2 c s) (obsC awO_ok (obsC (notO_ok ?_) (obsC (nearO_ok ?_) (obsC (nearO_ok ?_) (obsC (nearO_ok ?_) (obs1 (isO_ok (c := Z0) (d := Z0) hi))))))) w
    · rw [kW_self, kW_self, y_kW0, roll_lock]
    · rw [near32, rollA_is]
      show -8192 < (angleW (anglesS c s Z0 Z0) (anglesR c s Z0 Z0)).v ∧ (angleW (anglesS c s Z0 Z0) (anglesR c s Z0 Z0)).v < 8192
      rw [roll_s]
      exact pl
    · rw [near32, rollA_is]
      show -8192 < (angleW (anglesU c s Z0 Z0) (anglesV c s Z0 Z0)).v ∧ (angleW (anglesU c s Z0 Z0) (anglesV c s Z0 Z0)).v < 8192
      rw [roll_u, roll_v]
      exact yaw_roll
    · rw [far2_is, rollA_is, kW_self, kW_self]
      show -8192 < turnedI ((angleW (anglesY c s Z0 Z0) (anglesX c s Z0 Z0)).v - 2 * (angleW s c).v) ∧ turnedI ((angleW (anglesY c s Z0 Z0) (anglesX c s Z0 Z0)).v - 2 * (angleW s c).v) < 8192
      rw [roll_y, roll_x]
      exact dl
  · exact cxR_calls _ (roll_run0 c s) (goodL_2 c s) (obsC awO_ok (obs1 (isO_ok (c := Z0) (d := Z0) (isB_no hq)))) w
end Go.Proofs.YtbmfcedndbgpoaaGreat.Xi

/- How arguments are opened to cells, where the kit's own words for it do not reach: slices of structs. -/
namespace Go.Proofs.YtbmfcedndbgpoaaGreat
open Go.ChangeShapes Go.WideShapes Go.ChangeAt Go.RowKit

section
variable {H : Type} {enc : TypeId × Value → H} {P : Program} {w : World} {base : Nat} {spare : Nat → Bool} {held : Bool}
/-- A slice that came in: its elements, of so many cells each, each with its own reading. -/
theorem open_elems {t e : TypeId} {fuel C : Nat} {a0 : Option Addr} {n c : Nat} {x : DataW H × List MemPlace} (ht : P.underlying t = some (.slice e)) (hC : P.cellsOf e = C) (h0 : 0 < C)
    (h : DataW.trod enc P w base spare held fuel t [.slice a0 n c] = some x) :
    n ≤ c ∧ c ≤ maxLen ∧ (0 < n → ∃ b off, a0 = some ⟨b, off, none⟩ ∧ ∀ i, i < n → ∃ cs m y, cs.length = C ∧
      (∀ j, j < C → w.cell? ⟨b, off + (i * C + j), none⟩ = cs[j]?) ∧ DataW.trod enc P w base spare held m e cs = some y) := by
  subst hC
  rcases Go.Deep.open_slice ht h with ⟨hcs, _⟩ | ⟨a, len, cap, m, k, D, Pl, hcs, hb, hl, hm, hmm, _, hi⟩
  · simp at hcs
    obtain ⟨rfl, rfl, rfl⟩ := hcs
    exact ⟨Nat.le_refl _, by simp [maxLen], fun h => absurd h (by omega)⟩
  · simp at hcs
    obtain ⟨rfl, rfl, rfl⟩ := hcs
    refine ⟨hl, hm, fun hn => ?_⟩
    have hat : ∀ i, i < n → ∃ cs m y, cs.length = P.cellsOf e ∧ (∀ j, j < P.cellsOf e → w.cell? (a.add (i * P.cellsOf e + j)) = cs[j]?) ∧ DataW.trod enc P w base spare held m e cs = some y := by
      intro i hin
      obtain ⟨cs, hc, ht'⟩ := hi i (by rw [hmm]; split <;> omega)
      obtain ⟨_, hcl, hat⟩ := World.cells?_some hc
      refine ⟨cs, k, _, hcl, fun j hj => ?_, ht'⟩
      rw [← hat j hj, ← Go.Deep.add_add]
    have ha : a = ⟨a.block, a.off, none⟩ := by
      obtain ⟨cs, _, _, hl, hc, _⟩ := hat 0 hn
      have h1 := hc 0 h0
      rw [List.getElem?_eq_getElem (by omega), show a.add (0 * P.cellsOf e + 0) = a by simp [Addr.add]] at h1
      exact plain_of_cell h1
    refine ⟨a.block, a.off, by rw [← ha], fun i hin => ?_⟩
    obtain ⟨cs, m, y, hl, hc, ht'⟩ := hat i hin
    refine ⟨cs, m, y, hl, fun j hj => ?_, ht'⟩
    rw [← hc j hj, ha, add_plain]

theorem okWide_array {r : Reach} {b0 : Nat} {t : TypeId} {v : Value} {n : Nat} {e : TypeId} (ht : P.underlying t = some (.array n e)) (h : Value.okWide P w r b0 t v) : ∃ cs, v = .agg cs ∧ cs.size = P.cellsOf t := by
  simp only [Value.okWide, ht] at h
  obtain ⟨cs, h1, h2, _⟩ := h
  exact ⟨cs, h1, h2⟩
theorem array_of {cs : Array Value} {vs : List Value} (hl : cs.size = vs.length) (h : ∀ j (hj : j < vs.length), cs.toList[j]? = some vs[j]) : cs = vs.toArray := by
  apply Array.ext
  · simpa using hl
  · intro i h1 h2
    have h3 := h i (by simpa using h2)
    rw [Array.getElem?_toList, Array.getElem?_eq_getElem h1] at h3
    injection h3 with h3

/-- The types of a type's cells, its structs and arrays laid open. -/
def leaves (P : Program) : Nat → TypeId → List TypeId
  | 0, t => [t]
  | d + 1, t => match P.underlying t with
    | some (.struct fs) => (fs.toList.map fun f => leaves P d f.type).flatten
    | some (.array n e) => (List.replicate n (leaves P d e)).flatten
    | _ => [t]
def fieldsOk (P : Program) (ok : TypeId → Bool) (lv : TypeId → List TypeId) : List Field → Nat → Bool
  | [], _ => true
  | f :: fs, off => f.offset == off && P.cellsOf f.type == (lv f.type).length && ok f.type && fieldsOk P ok lv fs (off + (lv f.type).length)
def leavesOk (P : Program) : Nat → TypeId → Bool
  | 0, t => P.cellsOf t == 1
  | d + 1, t => match P.underlying t with
    | some (.struct fs) => P.cellsOf t == (leaves P (d + 1) t).length && fieldsOk P (leavesOk P d) (leaves P d) fs.toList 0
    | some (.array n e) => P.cellsOf e == (leaves P d e).length && P.cellsOf t == n * P.cellsOf e && leavesOk P d e
    | _ => true

/-- Cell j of cs reads as its leaf's type. -/
def LeafAt (enc : TypeId × Value → H) (P : Program) (w : World) (base : Nat) (spare : Nat → Bool) (held : Bool) (cs : List Value) (j : Nat) (t : TypeId) : Prop :=
  ∃ m y v, cs[j]? = some v ∧ DataW.trod enc P w base spare held m t [v] = some y

theorem seg_at {cs : List Value} {off C j : Nat} {v : Value} (h : ((cs.drop off).take C)[j]? = some v) : cs[off + j]? = some v := by
  rw [List.getElem?_take] at h
  split at h
  · rw [List.getElem?_drop] at h; exact h
  · cases h

theorem fields_leaves {d : Nat} (ih : ∀ t, leavesOk P d t = true → ∀ fuel cs x, cs.length = (leaves P d t).length → DataW.trod enc P w base spare held fuel t cs = some x → ∀ j lt, (leaves P d t)[j]? = some lt → LeafAt enc P w base spare held cs j lt)
    (cs : List Value) : ∀ (fs : List Field) (off : Nat), fieldsOk P (leavesOk P d) (leaves P d) fs off = true → off + ((fs.map fun f => leaves P d f.type).flatten).length ≤ cs.length →
      (∀ f ∈ fs, ∃ m y, DataW.trod enc P w base spare held m f.type ((cs.drop f.offset).take (P.cellsOf f.type)) = some y) →
      ∀ j lt, ((fs.map fun f => leaves P d f.type).flatten)[j]? = some lt → LeafAt enc P w base spare held cs (off + j) lt := by
  intro fs
  induction fs with
  | nil => intro off _ _ _ j lt h; simp at h
  | cons f fs ihf =>
    intro off hok hlen hall j lt hj
    simp only [fieldsOk, Bool.and_eq_true, beq_iff_eq] at hok
    obtain ⟨⟨⟨ho, hc⟩, hl⟩, hrest⟩ := hok
    simp only [List.map_cons, List.flatten_cons, List.length_append] at hlen
    simp only [List.map_cons, List.flatten_cons] at hj
    by_cases hjl : j < (leaves P d f.type).length
    · rw [List.getElem?_append_left hjl] at hj
      obtain ⟨m, y, ht⟩ := hall f (by simp)
      rw [ho, hc] at ht
      obtain ⟨m', y', v, hv, ht'⟩ := ih f.type hl m _ y (by simp; omega) ht j lt hj
      exact ⟨m', y', v, seg_at hv, ht'⟩
    · rw [List.getElem?_append_right (by omega)] at hj
      have := ihf (off + (leaves P d f.type).length) hrest (by omega) (fun g hg => hall g (by simp [hg])) _ lt hj
      rwa [show off + (leaves P d f.type).length + (j - (leaves P d f.type).length) = off + j by omega] at this

theorem array_leaves {d : Nat} {e : TypeId} (ih : ∀ fuel cs x, cs.length = (leaves P d e).length → DataW.trod enc P w base spare held fuel e cs = some x → ∀ j lt, (leaves P d e)[j]? = some lt → LeafAt enc P w base spare held cs j lt)
    (hC : P.cellsOf e = (leaves P d e).length) (cs : List Value) : ∀ (n off : Nat), off + n * P.cellsOf e ≤ cs.length →
      (∀ i, i < n → ∃ m y, DataW.trod enc P w base spare held m e ((cs.drop (off + i * P.cellsOf e)).take (P.cellsOf e)) = some y) →
      ∀ j lt, ((List.replicate n (leaves P d e)).flatten)[j]? = some lt → LeafAt enc P w base spare held cs (off + j) lt := by
  intro n
  induction n with
  | zero => intro off _ _ j lt h; simp at h
  | succ n ihn =>
    intro off hlen hall j lt hj
    rw [List.replicate_succ, List.flatten_cons] at hj
    rw [Nat.succ_mul] at hlen
    by_cases hjl : j < (leaves P d e).length
    · rw [List.getElem?_append_left hjl] at hj
      obtain ⟨m, y, ht⟩ := hall 0 (by omega)
      rw [Nat.zero_mul, Nat.add_zero] at ht
      obtain ⟨m', y', v, hv, ht'⟩ := ih m _ y (by rw [← hC]; simp; omega) ht j lt hj
      exact ⟨m', y', v, seg_at hv, ht'⟩
    · rw [List.getElem?_append_right (by omega)] at hj
      have := ihn (off + P.cellsOf e) (by omega) (fun i hi => by
        obtain ⟨m, y, ht⟩ := hall (i + 1) (by omega)
        rw [Nat.succ_mul] at ht
        exact ⟨m, y, by rw [show off + P.cellsOf e + i * P.cellsOf e = off + (i * P.cellsOf e + P.cellsOf e) by omega]; exact ht⟩) _ lt hj
      rwa [show off + P.cellsOf e + (j - (leaves P d e).length) = off + j by omega] at this

theorem trod_leaves : ∀ (d : Nat) (t : TypeId), leavesOk P d t = true → ∀ fuel cs x, cs.length = (leaves P d t).length → DataW.trod enc P w base spare held fuel t cs = some x →
    ∀ j lt, (leaves P d t)[j]? = some lt → LeafAt enc P w base spare held cs j lt := by
  intro d
  induction d with
  | zero =>
    intro t _ fuel cs x hl h j lt hj
    match cs, hl with
    | [v], _ =>
      match j, hj with
      | 0, hj => injection hj with hj; subst hj; exact ⟨fuel, x, v, rfl, h⟩
  | succ d ih =>
    intro t hok fuel cs x hl h j lt hj
    unfold leavesOk at hok
    cases hu : P.underlying t with
    | none => unfold leaves at hl hj; rw [hu] at hl hj
              match cs, hl with
              | [v], _ =>
                match j, hj with
                | 0, hj => injection hj with hj; subst hj; exact ⟨fuel, x, v, rfl, h⟩
    | some u =>
      by_cases hs : ∃ fs, u = .struct fs
      · obtain ⟨fs, rfl⟩ := hs
        rw [hu] at hok
        simp only [Bool.and_eq_true, beq_iff_eq] at hok
        obtain ⟨xs, n, _, _, hlen, hxl, hf⟩ := DataW.trod_struct hu h
        have hlv : leaves P (d + 1) t = (fs.toList.map fun f => leaves P d f.type).flatten := by rw [leaves]; rw [hu]
        rw [hlv] at hj hl
        have := fields_leaves ih cs fs.toList 0 hok.2 (by omega) (fun f hf' => by
          obtain ⟨i, hi, rfl⟩ := List.getElem_of_mem hf'
          have hi' : i < fs.size := by simpa using hi
          have h1 := hf i _ (Array.getElem?_eq_getElem hi')
          rw [List.getElem?_eq_getElem (by omega)] at h1
          exact ⟨n, _, by simpa using h1⟩) j lt hj
        simpa using this
      · by_cases ha : ∃ n e, u = .array n e
        · obtain ⟨n, e, rfl⟩ := ha
          rw [hu] at hok
          simp only [Bool.and_eq_true, beq_iff_eq] at hok
          obtain ⟨xs, m, _, _, hlen, hxl, hf⟩ := DataW.trod_array hu h
          have hlv : leaves P (d + 1) t = (List.replicate n (leaves P d e)).flatten := by rw [leaves]; rw [hu]
          rw [hlv] at hj
          have := array_leaves (fun fuel cs x => ih e hok.2 fuel cs x) hok.1.1 cs n 0 (by rw [hlen, hok.1.2]; omega) (fun i hi => by
            have h1 := hf i hi
            rw [List.getElem?_eq_getElem (by omega)] at h1
            exact ⟨m, _, by rw [Nat.zero_add]; exact h1⟩) j lt hj
          simpa using this
        · have hlv : leaves P (d + 1) t = [t] := by
            rw [leaves]; rw [hu]
            cases u <;> first | rfl | (exfalso; exact hs ⟨_, rfl⟩) | (exfalso; exact ha ⟨_, _, rfl⟩)
          rw [hlv] at hj hl
          match cs, hl with
          | [v], _ =>
            match j, hj with
            | 0, hj => injection hj with hj; subst hj; exact ⟨fuel, x, v, rfl, h⟩

theorem leaf_int {cs : List Value} {j : Nat} {t : TypeId} {k : IntKind} (ht : P.underlying t = some (.int k)) (h : LeafAt enc P w base spare held cs j t) : ∃ n, cs[j]? = some (.int k n) ∧ (Lit.int k n).wf = true := by
  obtain ⟨m, y, v, hv, h⟩ := h
  obtain ⟨n, e, _, hw⟩ := DataW.trod_int ht h
  injection e with e _
  subst e
  exact ⟨n, hv, hw⟩
theorem leaf_bool {cs : List Value} {j : Nat} {t : TypeId} (ht : P.underlying t = some .bool) (h : LeafAt enc P w base spare held cs j t) : ∃ b, cs[j]? = some (.bool b) := by
  obtain ⟨m, y, v, hv, h⟩ := h
  obtain ⟨b, e, _⟩ := DataW.trod_bool ht h
  injection e with e _
  subst e
  exact ⟨b, hv⟩
theorem leaf_string {cs : List Value} {j : Nat} {t : TypeId} (ht : P.underlying t = some .string) (h : LeafAt enc P w base spare held cs j t) : ∃ s : ByteArray, cs[j]? = some (.string s) ∧ s.size ≤ maxLen := by
  obtain ⟨m, y, v, hv, h⟩ := h
  obtain ⟨s, e, _, hs⟩ := DataW.trod_string ht h
  injection e with e _
  subst e
  exact ⟨s, hv, hs⟩
end

end Go.Proofs.YtbmfcedndbgpoaaGreat
