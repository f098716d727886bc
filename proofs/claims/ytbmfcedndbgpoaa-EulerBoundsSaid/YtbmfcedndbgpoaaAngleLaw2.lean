/- The angle of any place: its direction, and its bounds. -/
import Derived.Test.YtbmfcedndbgpoaaAngleLaw
namespace Go.Proofs.Ytbmfcedndbgpoaa
open Go.RowKit
set_option linter.unusedVariables false
theorem level_is {g : Wd} (hg : 0 < g.v) : ∃ T : Int, 0 < T ∧ 1073741824 ≤ g.v * T ∧ g.v * T < 2147483648 ∧ ∀ v : Wd, 0 ≤ v.v → v.v ≤ g.v → (levelW v (subW (clzW g) (kW 1))).v = v.v * T / 4 := by
  have ok := g.ok
  unfold In32 at ok
  obtain ⟨n, hn⟩ := Int.eq_ofNat_of_zero_le (a := g.v) (by omega)
  have n0 : n ≠ 0 := by omega
  have l1 := Nat.log2_self_le n0
  have l2 := Nat.lt_log2_self (n := n)
  have hk : n.log2 ≤ 30 := by
    refine Nat.le_of_lt_succ ((Nat.log2_lt n0).2 ?_)
    have : n < 2147483648 := by omega
    simpa using this
  obtain ⟨k, hk2⟩ : ∃ k, k = n.log2 := ⟨_, rfl⟩
  rw [← hk2] at l1 l2 hk
  have hc := clz_of (x := g) k (2 ^ k) hk rfl (by rw [hn]; exact_mod_cast l1) (by
    rw [hn]
    have : n < 2 * 2 ^ k := by rw [Nat.pow_succ] at l2; omega
    exact_mod_cast this)
  have hs : (subW (clzW g) (kW 1)).v = 30 - (k : Int) := by
    show wrap32 (clzI g.v - (kW 1).v) = _
    rw [hc, kW_v (by decide)]
    unfold wrap32; omega
  have hsh : sh (subW (clzW g) (kW 1)).v = 30 - k := by
    rw [hs]
    have : ∀ k : Nat, k ≤ 30 → sh (30 - (k : Int)) = 30 - k := by decide +kernel
    exact this k hk
  have e31 : (2 : Int) ^ k * 2 ^ (30 - k) = 1073741824 := by
    rw [← Int.pow_add, show k + (30 - k) = 30 by omega]; decide
  have hT : (0 : Int) < 2 ^ (30 - k) := Int.pow_pos (by decide)
  have g1 : (2 : Int) ^ k ≤ g.v := by rw [hn]; exact_mod_cast l1
  have g2 : g.v < 2 * (2 : Int) ^ k := by
    rw [hn]
    have : n < 2 * 2 ^ k := by rw [Nat.pow_succ] at l2; omega
    exact_mod_cast this
  have b1 : 1073741824 ≤ g.v * 2 ^ (30 - k) := by rw [← e31]; exact Int.mul_le_mul_of_nonneg_right g1 (Int.le_of_lt hT)
  have b2 : g.v * 2 ^ (30 - k) < 2147483648 := by
    have : g.v * 2 ^ (30 - k) < 2 * (2 : Int) ^ k * 2 ^ (30 - k) := Int.mul_lt_mul_of_pos_right g2 hT
    rw [Int.mul_assoc, e31] at this
    omega
  refine ⟨2 ^ (30 - k), hT, b1, b2, fun v v0 v1 => ?_⟩
  have p0 : 0 ≤ v.v * 2 ^ (30 - k) := Int.mul_nonneg v0 (Int.le_of_lt hT)
  have p1 : v.v * 2 ^ (30 - k) ≤ g.v * 2 ^ (30 - k) := Int.mul_le_mul_of_nonneg_right v1 (Int.le_of_lt hT)
  show wrap32 (wrap32 (v.v % 4294967296 * 2 ^ sh (subW (clzW g) (kW 1)).v % 4294967296) % 4294967296 / 2 ^ sh (kW 2).v) = _
  rw [hsh, show sh (kW 2).v = 2 by decide +kernel, show ((2 : Int) ^ 2) = 4 by decide, show v.v % 4294967296 = v.v by omega]
  generalize v.v * 2 ^ (30 - k) = V at *
  unfold wrap32
  omega
theorem abs_is {x : Wd} (h : -2147483648 < x.v) : (absW x).v = x.v.natAbs := by
  have := x.ok
  unfold In32 at this
  show max x.v (satI (-x.v)) = _
  unfold satI
  omega
/-- The turned angle, ahead of the quarters. -/
theorem angleA_near {g l : Wd} (hg : 0 < g.v) (hl : 0 ≤ l.v ∧ l.v ≤ g.v) :
    ∃ a : Int, (turnW (levelW g (subW (clzW g) (kW 1))) (levelW l (subW (clzW g) (kW 1))) 28).c.v = a ∧ Cone 497600000000000000000 ((PZ a).mul (G.mk g.v l.v).conj) ∧ -216 ≤ a ∧ a ≤ 700000000 := by
  obtain ⟨T, hT, b1, b2, hv⟩ := level_is hg
  have eg := hv g (by omega) (Int.le_refl _)
  have el := hv l hl.1 hl.2
  have pl0 : 0 ≤ l.v * T := Int.mul_nonneg hl.1 (Int.le_of_lt hT)
  have pl1 : l.v * T ≤ g.v * T := Int.mul_le_mul_of_nonneg_right hl.2 (Int.le_of_lt hT)
  generalize levelW g (subW (clzW g) (kW 1)) = X at *
  generalize levelW l (subW (clzW g) (kW 1)) = Y at *
  have hX : 268435456 ≤ X.v ∧ X.v ≤ 536870912 := by rw [eg]; omega
  have hY : 0 ≤ Y.v ∧ Y.v ≤ X.v := by rw [eg, el]; omega
  obtain ⟨_, _, hc⟩ := turn_rep hX hY 28 (by omega)
  have hn := turn_near hX hY
  refine ⟨_, hc, ?_, ?_, ?_⟩
  all_goals
    have hlev : Cone 3500000000000000000 ((G.mk X.v Y.v).mul (G.mk g.v l.v).conj) := by
      obtain ⟨r1, hr1⟩ : ∃ r, r = g.v * T - 4 * X.v := ⟨_, rfl⟩
      obtain ⟨r2, hr2⟩ : ∃ r, r = l.v * T - 4 * Y.v := ⟨_, rfl⟩
      have i1 : 0 ≤ r1 ∧ r1 ≤ 3 := by omega
      have i2 : 0 ≤ r2 ∧ r2 ≤ 3 := by omega
      have eR : 4 * (X.v * g.v - Y.v * -l.v) = g.v * (g.v * T) + l.v * (l.v * T) - r1 * g.v - r2 * l.v := by rw [hr1, hr2]; clear hn hc hX hY b1 b2 pl0 pl1 i1 i2 hr1 hr2 eg el; grind
      have eI : 4 * (X.v * -l.v + Y.v * g.v) = r1 * l.v - r2 * g.v := by rw [hr1, hr2]; clear hn hc hX hY b1 b2 pl0 pl1 i1 i2 hr1 hr2 eg el eR; grind
      have m1 : 0 ≤ r1 * g.v ∧ r1 * g.v ≤ 3 * g.v := ⟨Int.mul_nonneg i1.1 (by omega), Int.mul_le_mul_of_nonneg_right i1.2 (by omega)⟩
      have m2 : 0 ≤ r2 * l.v ∧ r2 * l.v ≤ 3 * l.v := ⟨Int.mul_nonneg i2.1 (by omega), Int.mul_le_mul_of_nonneg_right i2.2 (by omega)⟩
      have m3 : 0 ≤ r1 * l.v ∧ r1 * l.v ≤ 3 * l.v := ⟨Int.mul_nonneg i1.1 (by omega), Int.mul_le_mul_of_nonneg_right i1.2 (by omega)⟩
      have m4 : 0 ≤ r2 * g.v ∧ r2 * g.v ≤ 3 * g.v := ⟨Int.mul_nonneg i2.1 (by omega), Int.mul_le_mul_of_nonneg_right i2.2 (by omega)⟩
      have m5 : g.v * 1073741824 ≤ g.v * (g.v * T) := Int.mul_le_mul_of_nonneg_left b1 (by omega)
      have m6 : 0 ≤ l.v * (l.v * T) := Int.mul_nonneg hl.1 pl0
      refine ⟨?_, ?_, ?_⟩
      · show 0 < X.v * g.v - Y.v * -l.v
        omega
      · show -(3500000000000000000 * (X.v * g.v - Y.v * -l.v)) ≤ DD * (X.v * -l.v + Y.v * g.v)
        unfold DD; omega
      · show DD * (X.v * -l.v + Y.v * g.v) ≤ 3500000000000000000 * (X.v * g.v - Y.v * -l.v)
        unfold DD; omega
    have hA : Cone 497600000000000000000 ((PZ ((tu X.v Y.v 28).p - (tu X.v Y.v 28).m)).mul (G.mk g.v l.v).conj) := by
      obtain ⟨k, hk, e⟩ := PZ_pm (tu X.v Y.v 28).p (tu X.v Y.v 28).m
      have c := hn.mul' hlev (by decide) (by decide)
      rw [G.re_mul_conj] at c
      have c2 := c.of_by (sq_pos_of (by omega))
      rw [e, G.by_mul] at c2
      exact (c2.of_by hk).mono (by decide)
  · exact hA
  · -- from below
    have s := tu_sum X.v Y.v 28
    have p1 := (tu_m X.v Y.v 1 27).2
    have f1 : (tu X.v Y.v 1).p = 421657428 := by
      show (tuStep 0 ⟨X.v, Y.v, 0, 0⟩).p = _
      unfold tuStep
      rw [if_pos (show 0 ≤ Y.v from hY.1)]
      show 0 + tabN 0 = 421657428
      decide +kernel
    have st : sumN 28 = sumN 28 := rfl
    have n1 := sumN_le 28 (by omega)
    rw [show 1 + 27 = 28 from rfl] at p1
    refine Int.not_lt.1 (fun hneg => ?_)
    obtain ⟨n, hnn⟩ := Int.eq_ofNat_of_zero_le (a := -(((tu X.v Y.v 28).p : Int) - (tu X.v Y.v 28).m)) (by omega)
    have h2 := hA.negate
    rw [hnn, PZ_nat, G.conj_conj] at h2
    obtain ⟨q1, q2, q3, q4⟩ := P_small n (by omega)
    obtain ⟨c1, c2, c3⟩ := h2
    have hD := DD_pos
    have e1 : ((P n).mul (G.mk g.v l.v)).re = (P n).re * g.v - (P n).im * l.v := rfl
    have e2 : ((P n).mul (G.mk g.v l.v)).im = (P n).re * l.v + (P n).im * g.v := rfl
    rw [e1, e2] at c3
    have w1 : 0 ≤ (P n).re * l.v := Int.mul_nonneg (Int.le_of_lt q1) hl.1
    have w2 : 0 ≤ (P n).im * l.v := Int.mul_nonneg q2 hl.1
    have w3 : (n : Int) * (P n).re * g.v ≤ 536870912 * (P n).im * g.v := Int.mul_le_mul_of_nonneg_right q3 (by omega)
    have w4 : 0 < (P n).re * g.v := Int.mul_pos q1 hg
    have w5 : 217 * ((P n).re * g.v) ≤ (n : Int) * (P n).re * g.v := by
      rw [Int.mul_assoc]
      exact Int.mul_le_mul_of_nonneg_right (by omega) (Int.le_of_lt w4)
    rw [Int.mul_assoc 536870912] at w3
    generalize (n : Int) * (P n).re * g.v = z0 at *
    generalize (P n).re * g.v = z1 at *
    generalize (P n).im * g.v = z2 at *
    generalize (P n).re * l.v = z3 at *
    generalize (P n).im * l.v = z4 at *
    unfold DD at c3
    omega
  · -- from above
    have s := tu_sum X.v Y.v 28
    have n1 := sumN_le 28 (by omega)
    have m3 := (tu_m X.v Y.v 3 25).1
    rw [show 3 + 25 = 28 from rfl] at m3
    have f3 : 131521918 ≤ (tu X.v Y.v 3).m := by
      show 131521918 ≤ (tuStep 2 (tuStep 1 (tuStep 0 ⟨X.v, Y.v, 0, 0⟩))).m
      have t0 : tabN 0 = 421657428 := by decide +kernel
      have t1 : tabN 1 = 248918915 := by decide +kernel
      have t2 : tabN 2 = 131521918 := by decide +kernel
      have s0 : tuStep 0 ⟨X.v, Y.v, 0, 0⟩ = ⟨X.v + Y.v, Y.v - X.v, 421657428, 0⟩ := by
        unfold tuStep
        rw [if_pos (show 0 ≤ Y.v from hY.1)]
        simp [t0]
      rw [s0]
      by_cases hz : 0 ≤ Y.v - X.v
      · have s1 : tuStep 1 ⟨X.v + Y.v, Y.v - X.v, 421657428, 0⟩ = ⟨X.v + Y.v + (Y.v - X.v) / 2 ^ 1, Y.v - X.v - (X.v + Y.v) / 2 ^ 1, 421657428 + tabN 1, 0⟩ := by
          unfold tuStep
          rw [if_pos hz]
        rw [s1]
        unfold tuStep
        rw [if_neg (show ¬ 0 ≤ Y.v - X.v - (X.v + Y.v) / 2 ^ 1 by omega)]
        simp [t2]
      · have s1 : (tuStep 1 ⟨X.v + Y.v, Y.v - X.v, 421657428, 0⟩).m = tabN 1 := by
          unfold tuStep
          rw [if_neg hz]
          simp
        have := (tu_m X.v Y.v 2 1).1
        have e2 : (tu X.v Y.v 2).m = tabN 1 := by
          show (tuStep 1 (tuStep 0 ⟨X.v, Y.v, 0, 0⟩)).m = _
          rw [s0, s1]
        have e3 : (tu X.v Y.v (2 + 1)) = tuStep 2 (tuStep 1 ⟨X.v + Y.v, Y.v - X.v, 421657428, 0⟩) := by
          show tuStep 2 (tuStep 1 (tuStep 0 ⟨X.v, Y.v, 0, 0⟩)) = _
          rw [s0]
        rw [← e3]
        omega
    omega
/-- The angle of a place: in its direction, and within bounds. -/
theorem angle_near {y x : Wd} (hx : -2147483648 < x.v) (hy : -2147483648 < y.v) (h0 : x.v ≠ 0 ∨ y.v ≠ 0) :
    ∃ a : Int, (angleW y x).v = a ∧ Cone 502000000000000000000 ((PZ a).mul (G.mk x.v y.v).conj) ∧ -1686629929 ≤ a ∧ a ≤ 1686629929 ∧ (0 ≤ x.v → -843315073 ≤ a ∧ a ≤ 843315073) := by
  have ax := abs_is hx
  have ay := abs_is hy
  have okx := x.ok
  have oky := y.ok
  unfold In32 at okx oky
  -- the first octant
  have hA : ∃ b : Int, (angleB y x).v = b ∧ Cone 500000000000000000000 ((PZ b).mul (G.mk (x.v.natAbs : Int) y.v.natAbs).conj) ∧ -216 ≤ b ∧ b ≤ 843315073 := by
    have eM : (maxW (absW x) (absW y)).v = max (absW x).v (absW y).v := rfl
    have em : (minW (absW x) (absW y)).v = min (absW x).v (absW y).v := rfl
    obtain ⟨a, e, c, a0, a1⟩ := angleA_near (g := maxW (absW x) (absW y)) (l := minW (absW x) (absW y)) (by rw [eM]; omega) ⟨by rw [em]; omega, by rw [eM, em]; omega⟩
    have e' : (angleA y x).c.v = a := e
    by_cases h : (absW x).v < (absW y).v
    · unfold angleB angleBof
      rw [slt_yes h, sel_all]
      refine ⟨843314857 - a, ?_, ?_, by omega, by omega⟩
      · rw [sub_is (by rw [e', kW_v (by decide)]; unfold In32; omega), e', kW_v (by decide)]
      · rw [eM, em, show max (absW x).v (absW y).v = (y.v.natAbs : Int) by omega, show min (absW x).v (absW y).v = (x.v.natAbs : Int) by omega] at c
        have s := at_right.sum c.negate (by decide) (by decide)
        rw [show 843314857 + -a = 843314857 - a by omega, G.conj_conj] at s
        have eq : (G.mk 0 1).conj.mul (G.mk (y.v.natAbs : Int) x.v.natAbs) = (G.mk (x.v.natAbs : Int) y.v.natAbs).conj := by
          apply G.ext_ <;> unfold G.mul G.conj <;> simp only [] <;> omega
        rw [eq] at s
        exact s.mono (by decide)
    · unfold angleB angleBof
      rw [slt_no (by omega), sel_none]
      refine ⟨a, e', ?_, by omega, by omega⟩
      rw [eM, em, show max (absW x).v (absW y).v = (x.v.natAbs : Int) by omega, show min (absW x).v (absW y).v = (y.v.natAbs : Int) by omega] at c
      exact c.mono (by decide)
  obtain ⟨b, e, c, b0, b1⟩ := hA
  -- left and right
  have hC : ∃ d : Int, (angleC y x).v = d ∧ Cone 501700000000000000000 ((PZ d).mul (G.mk x.v (y.v.natAbs : Int)).conj) ∧ -216 ≤ d ∧ d ≤ 1686629929 ∧ (0 ≤ x.v → d ≤ 843315073) := by
    by_cases h : x.v < 0
    · unfold angleC angleCof
      rw [sign_neg h, sel_all]
      refine ⟨1686629713 - b, ?_, ?_, by omega, by omega, by omega⟩
      · rw [sub_is (by rw [e, kW_v (by decide)]; unfold In32; omega), e, kW_v (by decide)]
      · have s := at_pi.sum c.negate (by decide) (by decide)
        rw [show 1686629713 + -b = 1686629713 - b by omega, G.conj_conj] at s
        have eq : (G.mk (-1) 0).conj.mul (G.mk (x.v.natAbs : Int) y.v.natAbs) = (G.mk x.v (y.v.natAbs : Int)).conj := by
          apply G.ext_ <;> unfold G.mul G.conj <;> simp only [] <;> omega
        rw [eq] at s
        exact s.mono (by decide)
    · unfold angleC angleCof
      rw [sign_pos (by omega), sel_none]
      refine ⟨b, e, ?_, by omega, by omega, by omega⟩
      rw [show (x.v.natAbs : Int) = x.v by omega] at c
      exact c.mono (by decide)
  obtain ⟨d, e, c, d0, d1, d2⟩ := hC
  by_cases h : y.v < 0
  · unfold angleW
    rw [sign_neg h]
    refine ⟨-d, ?_, ?_, by omega, by omega, by omega⟩
    · rw [flip_all (by rw [e]; omega), e]
    · have s := c.negate
      rw [G.conj_conj, show G.mk x.v (y.v.natAbs : Int) = (G.mk x.v y.v).conj by unfold G.conj; simp only []; congr 1; omega] at s
      exact s.mono (by decide)
  · unfold angleW
    rw [sign_pos (by omega), flip_none]
    refine ⟨d, e, ?_, by omega, by omega, by omega⟩
    rw [show (y.v.natAbs : Int) = y.v by omega] at c
    exact c.mono (by decide)
end Go.Proofs.Ytbmfcedndbgpoaa
