/- Pointing's length is 1, its parts have their signs. -/
import Derived.Test.YtbmfcedndbgpoaaGreatUnitLaw
namespace Go.Proofs.YtbmfcedndbgpoaaGreat
open Go.RowKit Go.Deep
set_option linter.unusedVariables false
theorem small {U S : Int} (h : U * U ≤ S) (hS : S < 1152921779484753920) : -1073741952 ≤ U ∧ U ≤ 1073741952 := by
  constructor
  · refine Int.not_lt.1 (fun hc => ?_)
    have : 1073741953 * 1073741953 ≤ (-U) * (-U) := Int.mul_le_mul (by omega) (by omega) (by decide) (by omega)
    rw [Int.neg_mul_neg] at this
    omega
  · refine Int.not_lt.1 (fun hc => ?_)
    have : 1073741953 * 1073741953 ≤ U * U := Int.mul_le_mul (by omega) (by omega) (by decide) (by omega)
    omega
/-- One part. -/
theorem part_is {x z : Wd} (h : Nat) (H : Int) (hh : h ≤ 6) (hH : H = 2 ^ h) (hx : -32768 ≤ x.v ∧ x.v ≤ 32767) (hz : 0 ≤ z.v ∧ z.v ≤ 1288490189)
    (m : Int) (hm : m = (32768 * x.v * z.v + 536870912) / 1073741824) (l : -2147483648 ≤ H * m ∧ H * m ≤ 2147483647) : (scaledW (upW x 15) z (kW h)).v = H * m := by
  have e : (mulqW (upW x 15) z).v = m := by
    rw [mulq_is, up15_is (by omega), hm]
    rw [up15_is (by omega)]
    have := ab (A := z.v) (B := 32768 * x.v) (b := 1073741824) (by omega)
    rw [Int.natAbs_of_nonneg hz.1, Int.mul_comm z.v (32768 * x.v)] at this
    generalize 32768 * x.v * z.v = P at *
    omega
  show (shlW (mulqW (upW x 15) z) (kW h)).v = _
  rw [shl_is h H hh hH (by rw [e]; exact l.1) (by rw [e]; exact l.2), e]
theorem sign_is {x z m H : Int} (hz : 0 ≤ z) (hH : 0 < H) (hm : m = (32768 * x * z + 536870912) / 1073741824) : 0 ≤ (H * m) * x := by
  rcases Int.le_total 0 x with h | h
  · have : 0 ≤ 32768 * x * z := Int.mul_nonneg (by omega) hz
    generalize 32768 * x * z = P at *
    exact Int.mul_nonneg (Int.mul_nonneg (by omega) (by omega)) h
  · have : 32768 * x * z ≤ 0 := Int.mul_nonpos_of_nonpos_of_nonneg (by omega) hz
    generalize 32768 * x * z = P at *
    exact Int.mul_nonneg_of_nonpos_of_nonpos (Int.mul_nonpos_of_nonneg_of_nonpos (by omega) (by omega)) h
theorem point_unit (a b c : Wd) (ha : -32768 ≤ a.v ∧ a.v ≤ 32767) (hb : -32768 ≤ b.v ∧ b.v ≤ 32767) (hc : -32768 ≤ c.v ∧ c.v ≤ 32767)
    (n0 : 1000000 ≤ a.v * a.v + b.v * b.v + c.v * c.v) (n1 : a.v * a.v + b.v * b.v + c.v * c.v ≤ 400000000) :
    ∃ U0 U1 U2 : Int, (pointW a b c).a.v = U0 ∧ (pointW a b c).b.v = U1 ∧ (pointW a b c).c.v = U2 ∧ (-1073741952 ≤ U0 ∧ U0 ≤ 1073741952) ∧ (-1073741952 ≤ U1 ∧ U1 ≤ 1073741952) ∧ (-1073741952 ≤ U2 ∧ U2 ≤ 1073741952) ∧ 0 ≤ U0 * a.v ∧ 0 ≤ U1 * b.v ∧ 0 ≤ U2 * c.v ∧ 1152921229728940032 < U0 * U0 + U1 * U1 + U2 * U2 ∧ U0 * U0 + U1 * U1 + U2 * U2 < 1152921779484753920 := by
  obtain ⟨hs, _⟩ := square_short a b c ha hb hc
  have hok := (squareW a b c).ok
  unfold In32 at hok
  have hn : (squareW a b c).v = a.v * a.v + b.v * b.v + c.v * c.v := by
    generalize a.v * a.v + b.v * b.v + c.v * c.v = n at *
    omega
  obtain ⟨h, H, e2, hh, hH, hH64, hH0, u0, u4, ue, u1⟩ := root_word (x := squareW a b c) (by omega) (by omega)
  obtain ⟨z0, z1, d0, d1⟩ := rootZ_dist (u := rootU (squareW a b c)) (by omega)
  have zz : 0 ≤ (rootZ (rootU (squareW a b c)) 4).v ∧ (rootZ (rootU (squareW a b c)) 4).v ≤ 1288490189 := by omega
  unfold pointW
  rw [e2]
  show ∃ U0 U1 U2 : Int, (scaledW (upW a 15) (rootZ (rootU (squareW a b c)) 4) (kW h)).v = U0 ∧ (scaledW (upW b 15) (rootZ (rootU (squareW a b c)) 4) (kW h)).v = U1 ∧ (scaledW (upW c 15) (rootZ (rootU (squareW a b c)) 4) (kW h)).v = U2 ∧ _
  have hD : dist (rootU (squareW a b c)) (rootZ (rootU (squareW a b c)) 4) = (a.v * a.v + b.v * b.v + c.v * c.v) * (H * H) * ((rootZ (rootU (squareW a b c)) 4).v * (rootZ (rootU (squareW a b c)) 4).v) - 1237940039285380274899124224 := by
    unfold dist
    rw [ue, ← hn, ← Int.mul_assoc 4 (_ / 4), u4]
  rw [hD] at d0 d1
  clear hD ue u4 u0 u1 hs hn hok e2
  generalize rootZ (rootU (squareW a b c)) 4 = z at *
  obtain ⟨m0, k0⟩ : ∃ m, m = (32768 * a.v * z.v + 536870912) / 1073741824 := ⟨_, rfl⟩
  obtain ⟨m1, k1⟩ : ∃ m, m = (32768 * b.v * z.v + 536870912) / 1073741824 := ⟨_, rfl⟩
  obtain ⟨m2, k2⟩ : ∃ m, m = (32768 * c.v * z.v + 536870912) / 1073741824 := ⟨_, rfl⟩
  have rr : ∀ x m : Int, m = (32768 * x * z.v + 536870912) / 1073741824 → 1073741824 * (H * m) = H * (32768 * x * z.v) + H * (1073741824 * m - 32768 * x * z.v) ∧ -34359738368 ≤ H * (1073741824 * m - 32768 * x * z.v) ∧ H * (1073741824 * m - 32768 * x * z.v) ≤ 34359738368 := by
    intro x m hm
    have hr : -536870912 ≤ 1073741824 * m - 32768 * x * z.v ∧ 1073741824 * m - 32768 * x * z.v ≤ 536870912 := by
      generalize 32768 * x * z.v = P at *
      omega
    refine ⟨?_, ?_⟩
    · rw [Int.mul_sub]
      have : H * (1073741824 * m) = 1073741824 * (H * m) := Int.mul_left_comm _ _ _
      omega
    · have := ab (A := H) hr
      rw [Int.natAbs_of_nonneg (by omega)] at this
      omega
  obtain ⟨p0, p0'⟩ := rr _ _ k0
  obtain ⟨p1, p1'⟩ := rr _ _ k1
  obtain ⟨p2, p2'⟩ := rr _ _ k2
  have hN : H * (32768 * a.v * z.v) * (H * (32768 * a.v * z.v)) + H * (32768 * b.v * z.v) * (H * (32768 * b.v * z.v)) + H * (32768 * c.v * z.v) * (H * (32768 * c.v * z.v)) = 1073741824 * ((a.v * a.v + b.v * b.v + c.v * c.v) * (H * H) * (z.v * z.v)) := by
    clear d0 d1 n0 n1 rr p0 p1 p2 p0' p1' p2' k0 k1 k2 hH
    grind
  generalize (a.v * a.v + b.v * b.v + c.v * c.v) * (H * H) * (z.v * z.v) = N at *
  obtain ⟨t0, t1⟩ := three p0 p1 p2 p0' p1' p2' hN (by omega)
  clear rr p0 p1 p2 p0' p1' p2' hN
  have s0 := sq_nonneg (H * m0)
  have s1 := sq_nonneg (H * m1)
  have s2 := sq_nonneg (H * m2)
  have f0 : 1152921229728940032 < H * m0 * (H * m0) + H * m1 * (H * m1) + H * m2 * (H * m2) := by omega
  have f1 : H * m0 * (H * m0) + H * m1 * (H * m1) + H * m2 * (H * m2) < 1152921779484753920 := by omega
  have v0 := small (U := H * m0) (S := H * m0 * (H * m0) + H * m1 * (H * m1) + H * m2 * (H * m2)) (by omega) f1
  have v1 := small (U := H * m1) (S := H * m0 * (H * m0) + H * m1 * (H * m1) + H * m2 * (H * m2)) (by omega) f1
  have v2 := small (U := H * m2) (S := H * m0 * (H * m0) + H * m1 * (H * m1) + H * m2 * (H * m2)) (by omega) f1
  exact ⟨H * m0, H * m1, H * m2, part_is h H hh hH ha zz m0 k0 (by omega), part_is h H hh hH hb zz m1 k1 (by omega), part_is h H hh hH hc zz m2 k2 (by omega), v0, v1, v2, sign_is zz.1 hH0 k0, sign_is zz.1 hH0 k1, sign_is zz.1 hH0 k2, f0, f1⟩
end Go.Proofs.YtbmfcedndbgpoaaGreat
