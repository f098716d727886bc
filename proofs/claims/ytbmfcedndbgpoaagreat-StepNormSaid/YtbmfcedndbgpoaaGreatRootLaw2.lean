/- Four steps. -/
import Derived.Test.YtbmfcedndbgpoaaGreatRootLaw
namespace Go.Proofs.YtbmfcedndbgpoaaGreat
set_option linter.unusedVariables false
theorem root_range {u y : Wd} (hu : 268435456 ≤ u.v ∧ u.v ≤ 1073741824) (hy : 0 ≤ y.v) (hd : -(2 * 1237940039285380274899124224) ≤ 5 * dist u y ∧ 5 * dist u y ≤ 2 * 1237940039285380274899124224) : 1073741824 ≤ 3 * y.v ∧ 5 * y.v ≤ 6 * 1073741824 := by
  unfold dist at hd
  constructor
  · refine Int.not_lt.1 (fun h => ?_)
    have h1 : y.v * y.v ≤ 357913941 * 357913941 := Int.mul_le_mul (by omega) (by omega) hy (by omega)
    have h2 : u.v * (y.v * y.v) ≤ 1073741824 * (357913941 * 357913941) := Int.mul_le_mul hu.2 h1 (Int.mul_nonneg hy hy) (by omega)
    omega
  · refine Int.not_lt.1 (fun h => ?_)
    have h1 : 1288490188 * 1288490188 ≤ y.v * y.v := Int.mul_le_mul (by omega) (by omega) (by omega) hy
    have h2 : 268435456 * (1288490188 * 1288490188) ≤ u.v * (y.v * y.v) := Int.mul_le_mul hu.1 h1 (by omega) (by omega)
    omega
theorem root_step {u y : Wd} {d d' : Int} (hu : 268435456 ≤ u.v ∧ u.v ≤ 1073741824) (hy : 0 ≤ y.v) (hd5 : 5 * d ≤ 2 * 1237940039285380274899124224) (hd : -d ≤ dist u y ∧ dist u y ≤ d)
    (hd' : 3 * 1237940039285380274899124224 * (d * d) + d * d * d + 168 * 1237940039285380274899124224 * 1237940039285380274899124224 * 1152921504606846976 ≤ 4 * 1237940039285380274899124224 * 1237940039285380274899124224 * d') :
    0 ≤ (rootStep u y).v ∧ -d' ≤ dist u (rootStep u y) ∧ dist u (rootStep u y) ≤ d' := by
  have hr := root_range hu hy (by omega)
  have hu' : 0 ≤ u.v ∧ u.v ≤ 1073741824 := by omega
  refine ⟨?_, step_dist hu' ⟨hy, hr.2⟩ hd5 hd hd'⟩
  obtain ⟨yy, w, e, ye, hf, a1, a2, b1, b2, he, c1, c2, d1, d2, hz⟩ := step_is hu' ⟨hy, hr.2⟩ (by omega)
  obtain ⟨F, f1, f2, f3⟩ := newton (u := u.v) (y := y.v) (yy := yy) (w := w) (e := e) (ye := ye) (hf := hf) (z := (rootStep u y).v) (D := dist u y) (N := 1073741824) rfl hu' ⟨hy, hr.2⟩ ⟨a1, a2⟩ ⟨b1, b2⟩ he ⟨c1, c2⟩ ⟨d1, d2⟩ hz rfl
  have p : 357913941 * 1237940039285380274899124224 ≤ y.v * (2 * (1073741824 * 1073741824 * 1073741824) - dist u y) := Int.mul_le_mul (by omega) (by omega) (by omega) hy
  clear a1 a2 b1 b2 c1 c2 d1 d2 hz he
  generalize y.v * (2 * (1073741824 * 1073741824 * 1073741824) - dist u y) = P at *
  omega
theorem rootZ_dist {u : Wd} (hu : 268435456 ≤ u.v ∧ u.v < 1073741824) :
    1073741824 ≤ 3 * (rootZ u 4).v ∧ 5 * (rootZ u 4).v ≤ 6 * 1073741824 ∧ -48430741160944183193 ≤ dist u (rootZ u 4) ∧ dist u (rootZ u 4) ≤ 48430741160944183193 := by
  have hu2 : 268435456 ≤ u.v ∧ u.v ≤ 1073741824 := by omega
  obtain ⟨⟨y0, _⟩, a0⟩ := start_dist hu
  obtain ⟨y1, a1⟩ := root_step (u := u) (y := rootZ u 0) (d := 309485009821345068724781056) (d' := 62864191042663910572294144) hu2 y0 (by decide) a0 (by decide)
  obtain ⟨y2, a2⟩ := root_step (u := u) (y := rootZ u 1) (d := 62864191042663910572294144) (d' := 2434819508349633417988186) hu2 y1 (by decide) a1 (by decide)
  obtain ⟨y3, a3⟩ := root_step (u := u) (y := rootZ u 2) (d := 2434819508349633417988186) (d' := 3642437277383759613889) hu2 y2 (by decide) a2 (by decide)
  obtain ⟨y4, a4⟩ := root_step (u := u) (y := rootZ u 3) (d := 3642437277383759613889) (d' := 48430741160944183193) hu2 y3 (by decide) a3 (by decide)
  have hr := root_range hu2 y4 (by omega)
  exact ⟨hr.1, hr.2, a4⟩
end Go.Proofs.YtbmfcedndbgpoaaGreat
