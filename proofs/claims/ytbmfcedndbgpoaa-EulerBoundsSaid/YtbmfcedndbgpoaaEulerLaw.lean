/- Yaw and roll of who is turned about one axis; the bounds of all angles; the contrary quaternion. -/
import Derived.Test.YtbmfcedndbgpoaaAngleLaw2
import Derived.Test.YtbmfcedndbgpoaaStepLaw
import Derived.Test.YtbmfcedndbgpoaaEvenLaw
import Derived.Test.YtbmfcedndbgpoaaWorks11
namespace Go.Proofs.Ytbmfcedndbgpoaa
open Go.RowKit
set_option linter.unusedVariables false
/-- A root of what is not small is not 0. -/
theorem sqrt_pos {N : Wd} (h : 256 ≤ N.v) : 0 < (sqrtW N).v := by
  obtain ⟨h, H, e2, hh, hH, hH64, hH0, hxu, u0, u1⟩ := even_word h
  obtain ⟨z0, z1, d0, d1⟩ := rootZ_dist (u := rootU N) ⟨u0, u1⟩
  have ok := N.ok
  unfold In32 at ok
  show 0 < (scaledW N (rootW N).1 (rootW N).2).v
  rw [e2]
  show 0 < (shlW (mulqW N (rootZ (rootU N) 4)) (kW h)).v
  unfold dist at d0 d1
  generalize rootZ (rootU N) 4 = z at *
  have hZ : 0 ≤ z.v * z.v := sq_nonneg _
  have s1 : (N.v - 3) * (H * H) * (z.v * z.v) ≤ 4 * (rootU N).v * (z.v * z.v) := Int.mul_le_mul_of_nonneg_right hxu hZ
  have e1 : 4 * (rootU N).v * (z.v * z.v) = 4 * ((rootU N).v * (z.v * z.v)) := Int.mul_assoc _ _ _
  rw [e1] at s1
  obtain ⟨Z, hZe⟩ : ∃ Z, Z = H * H * (z.v * z.v) := ⟨_, rfl⟩
  have hZ0 : 0 ≤ Z := by rw [hZe]; exact Int.mul_nonneg (sq_nonneg _) hZ
  rw [Int.mul_assoc, ← hZe] at s1
  have t1 : (N.v + 3) * ((N.v - 3) * Z) ≤ 2147483650 * (1237940039285380274899124224 + 48430741160944183193) := Int.mul_le_mul (by omega) (by omega) (Int.mul_nonneg (by omega) hZ0) (by omega)
  have t2 : 253 * Z ≤ (N.v - 3) * Z := Int.mul_le_mul_of_nonneg_right (by omega) hZ0
  have t3 : H * (N.v * z.v) * (H * (N.v * z.v)) = (N.v + 3) * ((N.v - 3) * Z) + 9 * Z := by
    rw [hZe]
    clear t1 t2 s1 d0 d1 hxu hZe hZ0 hZ e1 hH
    grind
  have hb := abs_of_sq (A := H * (N.v * z.v)) (M := 1700000000000000000) (by decide) (by
    rw [t3]
    generalize (N.v + 3) * ((N.v - 3) * Z) = a at *
    generalize (N.v - 3) * Z = b at *
    omega)
  have hp : 256 * 357913942 ≤ N.v * z.v := Int.mul_le_mul (by omega) (by omega) (by omega) (by omega)
  have hp2 := mul_bd (a := N.v) (b := z.v) (A := 2147483647) (B := 1073741824 + 214748365) (by omega) (by omega)
  have hV : 1 * (N.v * z.v) ≤ H * (N.v * z.v) := Int.mul_le_mul_of_nonneg_right (by omega) (by omega)
  have em : (mulqW N z).v = (N.v * z.v + 536870912) / 1073741824 := mulq_is (by omega)
  obtain ⟨m, hm⟩ : ∃ m, m = (N.v * z.v + 536870912) / 1073741824 := ⟨_, rfl⟩
  rw [← hm] at em
  have hr : 1073741824 * m ≤ N.v * z.v + 536870912 := by omega
  have hm0 : 1 ≤ m := by omega
  have hr2 : H * (1073741824 * m) ≤ H * (N.v * z.v + 536870912) := Int.mul_le_mul_of_nonneg_left hr (by omega)
  have e3 : H * (1073741824 * m) = 1073741824 * (H * m) := Int.mul_left_comm _ _ _
  rw [e3, Int.mul_add] at hr2
  have hU : 0 < H * m := Int.mul_pos hH0 (by omega)
  rw [shl_up h H hh hH (by rw [em]; omega) (by rw [em]; omega), em]
  exact hU
theorem sqrt_small : ∀ n : Nat, n < 256 → 0 ≤ (sqrtW (kW n)).v := by decide +kernel
theorem sqrt_nonneg {N : Wd} (h : 0 ≤ N.v) : 0 ≤ (sqrtW N).v := by
  by_cases h2 : 256 ≤ N.v
  · exact Int.le_of_lt (sqrt_pos h2)
  · obtain ⟨n, hn⟩ := Int.eq_ofNat_of_zero_le h
    have e : N = kW n := Wd.ext_ (by rw [hn, kW_v (show In32 (n : Int) from ⟨by omega, by omega⟩)])
    rw [e]
    exact sqrt_small n (by omega)
/-- The doubled direction. -/
theorem dir_double {c s u v : Int} (h1 : c * c + s * s - 1152921504606846976 < 68719476736) (h2 : -68719476736 < c * c + s * s - 1152921504606846976)
    (hu : -536870912 ≤ 1073741824 * u - c * s ∧ 1073741824 * u - c * s ≤ 536870912) (hv : -536870912 ≤ 1073741824 * (536870912 - v) - s * s ∧ 1073741824 * (536870912 - v) - s * s ≤ 536870912) :
    Cone 80000000000000000000 ((G.mk v u).mul ((G.mk c s).mul (G.mk c s)).conj) := by
  obtain ⟨W, hW⟩ : ∃ W, W = c * c + s * s := ⟨_, rfl⟩
  obtain ⟨e1, he1⟩ : ∃ e, e = 2147483648 * v - (c * c - s * s) := ⟨_, rfl⟩
  obtain ⟨e2, he2⟩ : ∃ e, e = 2147483648 * u - 2 * (c * s) := ⟨_, rfl⟩
  have b1 : -69793218560 ≤ e1 ∧ e1 ≤ 69793218560 := by omega
  have b2 : -1073741824 ≤ e2 ∧ e2 ≤ 1073741824 := by omega
  have cc := sq_nonneg c
  have ss := sq_nonneg s
  have w1 : -W ≤ c * c - s * s ∧ c * c - s * s ≤ W := by omega
  have w2 : -W ≤ c * s + s * c ∧ c * s + s * c ≤ W := by
    have p := sq_nonneg (c + s)
    have q := sq_nonneg (c - s)
    have e : (c + s) * (c + s) = c * c + s * s + (c * s + s * c) := by grind
    have e' : (c - s) * (c - s) = c * c + s * s - (c * s + s * c) := by grind
    omega
  have p11 := mul_bd b1 w1
  have p12 := mul_bd b1 w2
  have p21 := mul_bd b2 w1
  have p22 := mul_bd b2 w2
  have eW : (c * c - s * s) * (c * c - s * s) + (c * s + s * c) * (c * s + s * c) = W * W := by rw [hW]; grind
  have eR : 2147483648 * (v * (c * c - s * s) - u * -(c * s + s * c)) = W * W + e1 * (c * c - s * s) + e2 * (c * s + s * c) := by
    rw [← eW, he1, he2]; clear p11 p12 p21 p22 b1 b2 w1 w2 hu hv h1 h2; grind
  have eI : 2147483648 * (v * -(c * s + s * c) + u * (c * c - s * s)) = e2 * (c * c - s * s) - e1 * (c * s + s * c) := by
    rw [he1, he2]; clear p11 p12 p21 p22 b1 b2 w1 w2 hu hv h1 h2 eR; grind
  have hWW : 1152921435887370240 * W ≤ W * W := Int.mul_le_mul_of_nonneg_right (by omega) (by omega)
  refine ⟨?_, ?_, ?_⟩
  · show 0 < v * (c * c - s * s) - u * -(c * s + s * c)
    omega
  · show -(80000000000000000000 * (v * (c * c - s * s) - u * -(c * s + s * c))) ≤ DD * (v * -(c * s + s * c) + u * (c * c - s * s))
    unfold DD; omega
  · show DD * (v * -(c * s + s * c) + u * (c * c - s * s)) ≤ 80000000000000000000 * (v * (c * c - s * s) - u * -(c * s + s * c))
    unfold DD; omega
/-- Whole turns. -/
theorem turns_2pi (k : Int) (h : -2 ≤ k ∧ k ≤ 2) : Cone 2900000000000000000 (PZ (3373259426 * k)) := by
  have one : (G.mk 1 0).conj = G.mk 1 0 := rfl
  have p1 := at_2pi
  rw [one, G.mul_comm, G.one_mul] at p1
  have n1 := p1.conj
  rw [← PZ_neg] at n1
  have p0 : Cone 1400000000000000000 ((PZ 3373259426).mul (G.mk 1 0)) := by rw [G.mul_comm, G.one_mul]; exact p1
  have n0 : Cone 1400000000000000000 ((PZ (-3373259426)).mul (G.mk 1 0)) := by rw [G.mul_comm, G.one_mul]; exact n1
  have p2 := p0.sum p0 (by decide) (by decide)
  have n2 := n0.sum n0 (by decide) (by decide)
  rw [G.one_mul, G.mul_comm, G.one_mul] at p2 n2
  rcases (by omega : k = -2 ∨ k = -1 ∨ k = 0 ∨ k = 1 ∨ k = 2) with rfl | rfl | rfl | rfl | rfl
  · exact n2.mono (by decide)
  · exact n1.mono (by decide)
  · exact coneB_spec (by decide +kernel)
  · exact p1.mono (by decide)
  · exact p2.mono (by decide)
/-- The angle of a doubled direction is the doubled angle, but for whole turns. -/
theorem double_law {c s u v : Wd} (hc : -2147483648 < c.v) (hs : -2147483648 < s.v) (hu0 : -2147483648 < u.v) (hv0 : -2147483648 < v.v) (h1 : c.v * c.v + s.v * s.v - 1152921504606846976 < 68719476736) (h2 : -68719476736 < c.v * c.v + s.v * s.v - 1152921504606846976)
    (hu : -536870912 ≤ 1073741824 * u.v - c.v * s.v ∧ 1073741824 * u.v - c.v * s.v ≤ 536870912) (hv : -536870912 ≤ 1073741824 * (536870912 - v.v) - s.v * s.v ∧ 1073741824 * (536870912 - v.v) - s.v * s.v ≤ 536870912) :
    ∃ a t : Int, (angleW u v).v = a ∧ (angleW s c).v = t ∧ -1686629929 ≤ a ∧ a ≤ 1686629929 ∧ -1686629929 ≤ t ∧ t ≤ 1686629929 ∧ ∀ k : Int, -2 ≤ k → k ≤ 2 → -1686629713 ≤ a - 2 * t - 3373259426 * k → a - 2 * t - 3373259426 * k ≤ 1686629713 → -800 ≤ a - 2 * t - 3373259426 * k ∧ a - 2 * t - 3373259426 * k ≤ 800 := by
  have hd := dir_double h1 h2 hu hv
  have nz1 : v.v ≠ 0 ∨ u.v ≠ 0 := by
    refine Classical.byContradiction (fun hn => ?_)
    have e1 : v.v = 0 := Classical.byContradiction (fun h => hn (.inl h))
    have e2 : u.v = 0 := Classical.byContradiction (fun h => hn (.inr h))
    rw [e1, e2] at hd
    have := hd.1
    simp [G.mul, G.conj] at this
  have nz2 : c.v ≠ 0 ∨ s.v ≠ 0 := by
    refine Classical.byContradiction (fun hn => ?_)
    have e1 : c.v = 0 := Classical.byContradiction (fun h => hn (.inl h))
    have e2 : s.v = 0 := Classical.byContradiction (fun h => hn (.inr h))
    rw [e1, e2] at h2
    omega
  obtain ⟨a, ea, ca, a0, a1, _⟩ := angle_near hv0 hu0 nz1
  obtain ⟨t, et, ct, t0, t1, _⟩ := angle_near hc hs nz2
  refine ⟨a, t, ea, et, a0, a1, t0, t1, fun k k0 k1 r0 r1 => ?_⟩
  -- the directions together
  have hp1 : 0 < (G.mk v.v u.v).sq := by
    have s1 := sq_nonneg v.v
    have s2 := sq_nonneg u.v
    show 0 < v.v * v.v + u.v * u.v
    rcases nz1 with h | h
    · have : 0 < v.v * v.v := by
        rcases Int.lt_or_gt_of_ne h with h | h
        · exact Int.mul_pos_of_neg_of_neg h h
        · exact Int.mul_pos h h
      omega
    · have : 0 < u.v * u.v := by
        rcases Int.lt_or_gt_of_ne h with h | h
        · exact Int.mul_pos_of_neg_of_neg h h
        · exact Int.mul_pos h h
      omega
  have c1 := ca.mul' hd (by decide) (by decide)
  rw [G.re_mul_conj] at c1
  have c2 := c1.of_by hp1
  have t2 := ct.sum ct (by decide) (by decide)
  have t3 := t2.negate
  rw [← G.conj_mul, G.conj_conj] at t3
  have sm := c2.sum t3 (by decide) (by decide)
  have hp2 : 0 < ((G.mk c.v s.v).mul (G.mk c.v s.v)).sq := by
    have e : ((G.mk c.v s.v).mul (G.mk c.v s.v)).sq = (c.v * c.v + s.v * s.v) * (c.v * c.v + s.v * s.v) := by unfold G.sq G.mul; simp only []; grind
    rw [e]
    exact Int.mul_pos (by omega) (by omega)
  rw [G.mul_comm ((G.mk c.v s.v).mul (G.mk c.v s.v)).conj, G.mul_conj, G.mul_comm _ (G.mk _ 0), G.real_mul] at sm
  have s1 := sm.of_by hp2
  have s2 : Cone 1600000000000000000000 ((PZ (a + -(t + t))).mul (G.mk 1 0)) := by rw [G.mul_comm, G.one_mul]; exact s1.mono (by decide)
  have q := turns_2pi (-k) (by omega)
  have q2 : Cone 2900000000000000000 ((PZ (3373259426 * -k)).mul (G.mk 1 0)) := by rw [G.mul_comm, G.one_mul]; exact q
  have f := s2.sum q2 (by decide) (by decide)
  rw [G.one_mul, G.mul_comm, G.one_mul, show a + -(t + t) + 3373259426 * -k = a - 2 * t - 3373259426 * k by omega] at f
  have g := near_none f (by decide) (by omega)
  unfold DD at g
  omega
end Go.Proofs.Ytbmfcedndbgpoaa
