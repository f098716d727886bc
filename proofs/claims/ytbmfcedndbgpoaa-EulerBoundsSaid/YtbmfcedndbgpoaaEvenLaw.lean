/- No part of what Even makes is longer than 1. -/
import Derived.Test.YtbmfcedndbgpoaaRootLaw4
import Derived.Test.YtbmfcedndbgpoaaUnitLaw2
namespace Go.Proofs.Ytbmfcedndbgpoaa
open Go.RowKit Go.Deep
set_option linter.unusedVariables false
theorem shl_up {a : Wd} (h : Nat) (H : Int) (hh : h ≤ 11) (hH : H = 2 ^ h) (l : -2147483648 ≤ H * a.v) (r : H * a.v ≤ 2147483647) : (shlW a (kW h)).v = H * a.v := by
  show Go.RowKit.wrap32 (a.v % 4294967296 * 2 ^ sh (kW h).v % 4294967296) = _
  have e : sh (kW h).v = h := by
    have : ∀ h : Nat, h ≤ 11 → sh (kW h).v = h := by decide +kernel
    exact this h hh
  rw [e]
  have hc : h = 0 ∨ h = 1 ∨ h = 2 ∨ h = 3 ∨ h = 4 ∨ h = 5 ∨ h = 6 ∨ h = 7 ∨ h = 8 ∨ h = 9 ∨ h = 10 ∨ h = 11 := by omega
  unfold Go.RowKit.wrap32
  rcases hc with rfl | rfl | rfl | rfl | rfl | rfl | rfl | rfl | rfl | rfl | rfl | rfl <;> subst hH <;> simp only [Int.reducePow] at * <;> omega
/-- One part: g, its square at most 2^30 (x - 3). -/
theorem even_part {g x : Wd} (hg : -536870912 ≤ g.v ∧ g.v ≤ 536870912) (hx : 256 ≤ x.v) (hq : g.v * g.v ≤ 1073741824 * (x.v - 3)) :
    ∃ U : Int, (scaledW g (rootW x).1 (rootW x).2).v = U ∧ -1073750000 ≤ U ∧ U ≤ 1073750000 ∧ 0 ≤ U * g.v := by
  obtain ⟨h, H, e2, hh, hH, hH64, hH0, hxu, u0, u1⟩ := even_word hx
  obtain ⟨z0, z1, d0, d1⟩ := rootZ_dist (u := rootU x) ⟨u0, u1⟩
  rw [e2]
  show ∃ U : Int, (shlW (mulqW g (rootZ (rootU x) 4)) (kW h)).v = U ∧ _
  unfold dist at d0 d1
  generalize rootZ (rootU x) 4 = z at *
  have em : (mulqW g z).v = (g.v * z.v + 536870912) / 1073741824 := by
    rw [mulq_is]
    have := ab (A := z.v) (B := g.v) (b := 536870912) hg
    rw [Int.natAbs_of_nonneg (by omega), Int.mul_comm z.v g.v] at this
    generalize g.v * z.v = P at *
    omega
  obtain ⟨m, hm⟩ : ∃ m, m = (g.v * z.v + 536870912) / 1073741824 := ⟨_, rfl⟩
  have hA : H * (g.v * z.v) * (H * (g.v * z.v)) ≤ 1073741824 * (4 * ((rootU x).v * (z.v * z.v))) := by
    have hz : 0 ≤ z.v * z.v := sq_nonneg _
    have hHH : 0 ≤ H * H := sq_nonneg _
    have s1 : g.v * g.v * (H * H) ≤ 1073741824 * (x.v - 3) * (H * H) := Int.mul_le_mul_of_nonneg_right hq hHH
    have s2 : g.v * g.v * (H * H) ≤ 1073741824 * (4 * (rootU x).v) := by
      rw [Int.mul_assoc] at s1 ⊢
      rw [Int.mul_assoc] at s1
      generalize (x.v - 3) * (H * H) = Y at *
      omega
    have s3 := Int.mul_le_mul_of_nonneg_right s2 hz
    have e1 : H * (g.v * z.v) * (H * (g.v * z.v)) = g.v * g.v * (H * H) * (z.v * z.v) := by
      clear s1 s2 s3 d0 d1 hm em hq hxu hH
      grind
    have e3 : 1073741824 * (4 * (rootU x).v) * (z.v * z.v) = 1073741824 * (4 * ((rootU x).v * (z.v * z.v))) := by
      clear s1 s2 s3 d0 d1 hm em hq hxu hH e1
      grind
    rw [e1]
    rw [e3] at s3
    exact s3
  have hr : -536870912 ≤ 1073741824 * m - g.v * z.v ∧ 1073741824 * m - g.v * z.v ≤ 536870912 := by
    generalize g.v * z.v = P at *
    omega
  have hR := ab (A := H) hr
  rw [Int.natAbs_of_nonneg (by omega), Int.mul_sub] at hR
  have hV : -1152921600000000000 ≤ H * (g.v * z.v) ∧ H * (g.v * z.v) ≤ 1152921600000000000 := by
    generalize H * (g.v * z.v) = V at *
    generalize 4 * ((rootU x).v * (z.v * z.v)) = W at *
    constructor
    · refine Int.not_lt.1 (fun hc => ?_)
      have : 1152921600000000001 * 1152921600000000001 ≤ (-V) * (-V) := Int.mul_le_mul (by omega) (by omega) (by decide) (by omega)
      rw [Int.neg_mul_neg] at this
      omega
    · refine Int.not_lt.1 (fun hc => ?_)
      have : 1152921600000000001 * 1152921600000000001 ≤ V * V := Int.mul_le_mul (by omega) (by omega) (by decide) (by omega)
      omega
  have eU : H * (1073741824 * m) = 1073741824 * (H * m) := Int.mul_left_comm _ _ _
  have hU : -1073750000 ≤ H * m ∧ H * m ≤ 1073750000 := by
    generalize H * (g.v * z.v) = V at *
    generalize H * m = U at *
    clear hA d0 d1 hxu
    omega
  refine ⟨H * m, ?_, hU.1, hU.2, ?_⟩
  · rw [shl_up h H hh hH (by rw [em, ← hm]; omega) (by rw [em, ← hm]; omega), em, ← hm]
  · rcases Int.le_total 0 g.v with h | h
    · have : 0 ≤ g.v * z.v := Int.mul_nonneg h (by omega)
      exact Int.mul_nonneg (Int.mul_nonneg (by omega) (by omega)) h
    · have : g.v * z.v ≤ 0 := Int.mul_nonpos_of_nonpos_of_nonneg h (by omega)
      exact Int.mul_nonneg_of_nonpos_of_nonpos (Int.mul_nonpos_of_nonneg_of_nonpos (by omega) (by omega)) h
end Go.Proofs.Ytbmfcedndbgpoaa
