/- Who looks north has not to turn, but for what roots and rounding make. -/
import Derived.Test.YtbmfcedndbgpoaaStill
import Derived.Test.YtbmfcedndbgpoaaWorks9
import Derived.Test.YtbmfcedndbgpoaaEvenLaw2
import Derived.Test.YtbmfcedndbgpoaaNormLaw
namespace Go.Proofs.Ytbmfcedndbgpoaa
open Go.RowKit Go.Deep
set_option linter.unusedVariables false
set_option linter.unusedSimpArgs false
def O0 : Wd := lw 1073741824 (by decide)
theorem mulq_ol {a b : Wd} (h : a = O0) : mulqW a b = b := by
  subst h
  apply Wd.ext_
  have := b.ok
  unfold In32 at this
  show satI (1073741824 * b.v / 1073741824 + 1073741824 * b.v / 536870912 % 2) = b.v
  unfold satI
  omega
theorem mulq_or {a b : Wd} (h : b = O0) : mulqW a b = a := by
  subst h
  apply Wd.ext_
  have := a.ok
  unfold In32 at this
  show satI (a.v * 1073741824 / 1073741824 + a.v * 1073741824 / 536870912 % 2) = a.v
  unfold satI
  omega
theorem adds_zr {a b : Wd} (h : b = Z0) : addsW a b = a := by
  subst h
  apply Wd.ext_
  have := a.ok
  unfold In32 at this
  show satI (a.v + 0) = a.v
  unfold satI
  omega
theorem adds_zl {a b : Wd} (h : a = Z0) : addsW a b = b := by
  subst h
  apply Wd.ext_
  have := b.ok
  unfold In32 at this
  show satI (0 + b.v) = b.v
  unfold satI
  omega
theorem subs_zr {a b : Wd} (h : b = Z0) : subsW a b = a := by
  subst h
  apply Wd.ext_
  have := a.ok
  unfold In32 at this
  show satI (a.v - 0) = a.v
  unfold satI
  omega
theorem neg_z : negW Z0 = Z0 := by apply Wd.ext_; decide
theorem kW0 : kW 0 = Z0 := by apply Wd.ext_; decide +kernel
def H0 : Wd := kW 536870912
theorem H0_def : kW 536870912 = H0 := rfl
/-- The field north, from 1. -/
theorem north_H (x z : Wd) : fieldH O0 Z0 Z0 Z0 x Z0 z = ⟨Z0, x, Z0, z⟩ := by
  have r : rateW O0 Z0 Z0 Z0 x Z0 z = ⟨Z0, x, Z0, z⟩ := by
    unfold rateW totalW
    simp only [List.foldl, put1, tot0, term, pick, List.getD_cons_zero, List.getD_cons_succ, cond_true, cond_false, mulq_ol rfl, mulq_zl rfl, mulq_zr rfl, kW0, adds_zr rfl, subs_zr rfl]
  unfold fieldH
  rw [r]
  unfold timesW totalW
  simp only [List.foldl, put1, tot0, term, pick, List.getD_cons_zero, List.getD_cons_succ, cond_true, cond_false, neg_z, mulq_or rfl, mulq_zl rfl, mulq_zr rfl, adds_zr rfl, adds_zl rfl, subs_zr rfl]
theorem north_B (x z : Wd) : fieldB O0 Z0 Z0 Z0 x Z0 z = sqrtW (mulqW x x) := by
  unfold fieldB
  rw [north_H]
  simp only [normW, List.foldl, mulq_zl rfl, adds_zr rfl]
theorem north_W (x z : Wd) : fieldW O0 Z0 Z0 Z0 x Z0 z = ⟨Z0, Z0, downW (addsW (mulqW (negW z) (subsW (mulqW (sqrtW (mulqW x x)) H0) (downW x 1))) (mulqW (sqrtW (mulqW x x)) (subsW (mulqW z H0) (downW z 1)))) 1, Z0⟩ := by
  have e : fieldE O0 Z0 Z0 Z0 x Z0 z = ⟨subsW (mulqW (sqrtW (mulqW x x)) H0) (downW x 1), Z0, subsW (mulqW z H0) (downW z 1)⟩ := by
    unfold fieldE
    rw [north_B, show fieldZ O0 Z0 Z0 Z0 x Z0 z = z by unfold fieldZ; rw [north_H]]
    unfold errorsW lessW moreW
    simp only [List.foldl, mulq_zl rfl, mulq_zr rfl, subs_zr rfl, adds_zr rfl, adds_zl rfl, down_z, H0_def]
  have ex : fieldX O0 Z0 Z0 Z0 x Z0 z = ⟨sqrtW (mulqW x x), Z0, Z0, Z0⟩ := by
    unfold fieldX
    simp only [north_B, mulq_or rfl, mulq_zr rfl]
  have ey : fieldY O0 Z0 Z0 Z0 x Z0 z = ⟨z, Z0, Z0, Z0⟩ := by
    unfold fieldY
    rw [show fieldZ O0 Z0 Z0 Z0 x Z0 z = z by unfold fieldZ; rw [north_H]]
    simp only [mulq_or rfl, mulq_zr rfl]
  unfold fieldW
  rw [e, ex, ey]
  unfold fieldOf sumW moreW lessW
  simp only [List.foldl, mulq_zl rfl, mulq_zr rfl, subs_zr rfl, adds_zr rfl, adds_zl rfl, neg_z, down_z]
/-- The root of a small square. -/
def nearB (n : Nat) : Bool :=
  let b := (sqrtW (kW n)).v
  decide (0 ≤ b) && decide (b ≤ 600000) && decide ((n : Int) * 1073741824 + 536870912 ≤ (b + 65536) * (b + 65536)) && (decide (b ≤ 65536) || decide ((b - 65536) * (b - 65536) ≤ (n : Int) * 1073741824 - 536870912))
theorem nearB_all : ∀ n : Nat, n < 256 → nearB n = true := by decide +kernel
/-- The shift of a root's word below 1: nothing is lost. -/
theorem exact_word {x : Wd} (h0 : 256 ≤ x.v) (h1 : x.v < 1073741824) :
    ∃ (h : Nat) (H : Int), (rootW x).2 = kW h ∧ h ≤ 11 ∧ H = 2 ^ h ∧ H ≤ 2048 ∧ 0 < H ∧ x.v * (H * H) = 4 * (rootU x).v ∧ 268435456 ≤ (rootU x).v ∧ (rootU x).v < 1073741824 := by
  by_cases c1 : 268435456 ≤ x.v
  · obtain ⟨a, b⟩ := root_1 (x := x) c1 (by omega)
    exact ⟨1, 2, Wd.ext_ (b.trans (by decide +kernel)), by decide, by decide, by decide, by decide, by omega, by omega, by omega⟩
  by_cases c2 : 67108864 ≤ x.v
  · obtain ⟨a, b⟩ := root_2 (x := x) c2 (by omega)
    exact ⟨2, 4, Wd.ext_ (b.trans (by decide +kernel)), by decide, by decide, by decide, by decide, by omega, by omega, by omega⟩
  by_cases c3 : 16777216 ≤ x.v
  · obtain ⟨a, b⟩ := root_3 (x := x) c3 (by omega)
    exact ⟨3, 8, Wd.ext_ (b.trans (by decide +kernel)), by decide, by decide, by decide, by decide, by omega, by omega, by omega⟩
  by_cases c4 : 4194304 ≤ x.v
  · obtain ⟨a, b⟩ := root_4 (x := x) c4 (by omega)
    exact ⟨4, 16, Wd.ext_ (b.trans (by decide +kernel)), by decide, by decide, by decide, by decide, by omega, by omega, by omega⟩
  by_cases c5 : 1048576 ≤ x.v
  · obtain ⟨a, b⟩ := root_5 (x := x) c5 (by omega)
    exact ⟨5, 32, Wd.ext_ (b.trans (by decide +kernel)), by decide, by decide, by decide, by decide, by omega, by omega, by omega⟩
  by_cases c6 : 262144 ≤ x.v
  · obtain ⟨a, b⟩ := root_6 (x := x) c6 (by omega)
    exact ⟨6, 64, Wd.ext_ (b.trans (by decide +kernel)), by decide, by decide, by decide, by decide, by omega, by omega, by omega⟩
  by_cases c7 : 65536 ≤ x.v
  · obtain ⟨a, b⟩ := root_7 (x := x) c7 (by omega)
    exact ⟨7, 128, Wd.ext_ (b.trans (by decide +kernel)), by decide, by decide, by decide, by decide, by omega, by omega, by omega⟩
  by_cases c8 : 16384 ≤ x.v
  · obtain ⟨a, b⟩ := root_8 (x := x) c8 (by omega)
    exact ⟨8, 256, Wd.ext_ (b.trans (by decide +kernel)), by decide, by decide, by decide, by decide, by omega, by omega, by omega⟩
  by_cases c9 : 4096 ≤ x.v
  · obtain ⟨a, b⟩ := root_9 (x := x) c9 (by omega)
    exact ⟨9, 512, Wd.ext_ (b.trans (by decide +kernel)), by decide, by decide, by decide, by decide, by omega, by omega, by omega⟩
  by_cases c10 : 1024 ≤ x.v
  · obtain ⟨a, b⟩ := root_10 (x := x) c10 (by omega)
    exact ⟨10, 1024, Wd.ext_ (b.trans (by decide +kernel)), by decide, by decide, by decide, by decide, by omega, by omega, by omega⟩
  obtain ⟨a, b⟩ := root_11 (x := x) (by omega) (by omega)
  exact ⟨11, 2048, Wd.ext_ (b.trans (by decide +kernel)), by decide, by decide, by decide, by decide, by omega, by omega, by omega⟩
/-- The root of a square is near to what was squared. -/
theorem root_sq {x : Wd} (hx : 0 ≤ x.v ∧ x.v ≤ 536870912) : -65536 ≤ (sqrtW (mulqW x x)).v - x.v ∧ (sqrtW (mulqW x x)).v - x.v ≤ 65536 := by
  obtain ⟨n0, n1, n2⟩ := sq29 (g := x) (by omega)
  have hq : x.v * x.v ≤ 288230376151711744 := (mul_bd (a := x.v) (b := x.v) (A := 536870912) (B := 536870912) (by omega) (by omega)).2
  have n3 : 1073741824 * (mulqW x x).v ≤ x.v * x.v + 536870912 := by
    rw [mulq_is (by have := sq_nonneg x.v; omega)]
    generalize x.v * x.v = P at *
    omega
  generalize mulqW x x = N at *
  by_cases h : 256 ≤ N.v
  · obtain ⟨h2, H, e2, hh, hH, hH64, hH0, hxu, u0, u1⟩ := exact_word h (by omega)
    obtain ⟨z0, z1, d0, d1⟩ := rootZ_dist (u := rootU N) ⟨u0, u1⟩
    show -65536 ≤ (scaledW N (rootW N).1 (rootW N).2).v - x.v ∧ (scaledW N (rootW N).1 (rootW N).2).v - x.v ≤ 65536
    rw [e2]
    show -65536 ≤ (shlW (mulqW N (rootZ (rootU N) 4)) (kW h2)).v - x.v ∧ (shlW (mulqW N (rootZ (rootU N) 4)) (kW h2)).v - x.v ≤ 65536
    unfold dist at d0 d1
    generalize rootZ (rootU N) 4 = z at *
    have hp2 := mul_bd (a := N.v) (b := z.v) (A := 268435456) (B := 1288490189) (by omega) (by omega)
    have em : (mulqW N z).v = (N.v * z.v + 536870912) / 1073741824 := mulq_is (by omega)
    obtain ⟨m, hm⟩ : ∃ m, m = (N.v * z.v + 536870912) / 1073741824 := ⟨_, rfl⟩
    rw [← hm] at em
    obtain ⟨B, hB⟩ : ∃ B, B = H * (N.v * z.v) := ⟨_, rfl⟩
    have hp0 : 0 ≤ N.v * z.v := Int.mul_nonneg (by omega) (by omega)
    have hB0 : 0 ≤ B := by rw [hB]; exact Int.mul_nonneg (by omega) hp0
    have hr : -(H * 536870912) ≤ H * (1073741824 * m - N.v * z.v) ∧ H * (1073741824 * m - N.v * z.v) ≤ H * 536870912 := by
      have q := ab (A := H) (B := 1073741824 * m - N.v * z.v) (b := 536870912) (by omega)
      rwa [Int.natAbs_of_nonneg (by omega)] at q
    have e3 : H * (1073741824 * m - N.v * z.v) = 1073741824 * (H * m) - B := by
      rw [Int.mul_sub, ← hB]
      have : H * (1073741824 * m) = 1073741824 * (H * m) := Int.mul_left_comm _ _ _
      omega
    rw [e3] at hr
    -- the squares
    have eB : B * B = N.v * (4 * ((rootU N).v * (z.v * z.v))) := by
      have : N.v * (4 * ((rootU N).v * (z.v * z.v))) = N.v * (4 * (rootU N).v * (z.v * z.v)) := by rw [Int.mul_assoc 4]
      rw [this, ← hxu, hB]
      clear d0 d1 hr e3 hm em hH hB n0 n1 n2 n3 hq hp2 hp0
      grind
    obtain ⟨dd, hdd⟩ : ∃ d, d = 4 * ((rootU N).v * (z.v * z.v)) - 1237940039285380274899124224 := ⟨_, rfl⟩
    have eBB : B * B = 1237940039285380274899124224 * N.v + N.v * dd := by
      rw [eB, show 4 * ((rootU N).v * (z.v * z.v)) = 1237940039285380274899124224 + dd by omega, Int.mul_add, Int.mul_comm N.v]
    have bd := mul_bd (a := N.v) (b := dd) (A := 268435456) (B := 48430741160944183193) (by omega) (by omega)
    have hx0 : 523700 ≤ x.v := by
      refine Int.not_lt.1 (fun hc => ?_)
      have : x.v * x.v ≤ 523700 * 523700 := Int.mul_le_mul (by omega) (by omega) hx.1 (by omega)
      omega
    have eX : 1073741824 * x.v * (1073741824 * x.v) = 1152921504606846976 * (x.v * x.v) := by grind
    -- B is near to 2^30 x
    have key : -24320000000000 * 1 ≤ B - 1073741824 * x.v ∧ B - 1073741824 * x.v ≤ 24320000000000 := by
      have hX0 : 562318000000000 ≤ 1073741824 * x.v := by omega
      obtain ⟨X, hX⟩ : ∃ X, X = 1073741824 * x.v := ⟨_, rfl⟩
      rw [← hX] at eX hX0 ⊢
      have f : (B - X) * (B + X) = B * B - X * X := by grind
      have fb : -13670000000000000000000000000 ≤ (B - X) * (B + X) ∧ (B - X) * (B + X) ≤ 13670000000000000000000000000 := by
        rw [f, eBB, eX]
        generalize x.v * x.v = P at *
        generalize N.v * dd = Q at *
        omega
      constructor
      · refine Int.not_lt.1 (fun hc => ?_)
        have : 24320000000001 * 562318000000000 ≤ (X - B) * (B + X) := Int.mul_le_mul (by omega) (by omega) (by omega) (by omega)
        have e : (X - B) * (B + X) = -((B - X) * (B + X)) := by grind
        rw [e] at this
        omega
      · refine Int.not_lt.1 (fun hc => ?_)
        have : 24320000000001 * 562318000000000 ≤ (B - X) * (B + X) := Int.mul_le_mul (by omega) (by omega) (by omega) (by omega)
        omega
    have hU : -65536 ≤ H * m - x.v ∧ H * m - x.v ≤ 65536 := by omega
    rw [shl_up h2 H hh hH (by rw [em]; omega) (by rw [em]; omega), em]
    exact hU
  · obtain ⟨n, hn⟩ := Int.eq_ofNat_of_zero_le n0
    have e : N = kW n := Wd.ext_ (by rw [hn, kW_v (show In32 (n : Int) from ⟨by omega, by omega⟩)])
    have hb := nearB_all n (by omega)
    rw [e]
    unfold nearB at hb
    simp only [Bool.and_eq_true, Bool.or_eq_true, decide_eq_true_eq] at hb
    rw [hn] at n2 n3
    generalize (sqrtW (kW n)).v = b at *
    obtain ⟨⟨⟨b0, b1⟩, b2⟩, b3⟩ := hb
    constructor
    · refine Int.not_lt.1 (fun hc => ?_)
      have : (b + 65536 + 1) * (b + 65536 + 1) ≤ x.v * x.v := Int.mul_le_mul (by omega) (by omega) (by omega) (by omega)
      have e2 : (b + 65536 + 1) * (b + 65536 + 1) = (b + 65536) * (b + 65536) + 2 * b + 131073 := by grind
      omega
    · refine Int.not_lt.1 (fun hc => ?_)
      rcases b3 with b3 | b3
      · omega
      · have : (x.v + 1) * (x.v + 1) ≤ (b - 65536) * (b - 65536) := Int.mul_le_mul (by omega) (by omega) (by omega) (by omega)
        have e2 : (x.v + 1) * (x.v + 1) = x.v * x.v + 2 * x.v + 1 := by grind
        omega
/-- Who looks north. -/
theorem north_law (x z : Wd) (hx : 0 ≤ x.v ∧ x.v ≤ 536870912) (hz : -536870912 ≤ z.v ∧ z.v ≤ 536870912) :
    ∃ g : Wd, fieldW O0 Z0 Z0 Z0 x Z0 z = ⟨Z0, Z0, g, Z0⟩ ∧ -32768 ≤ g.v ∧ g.v ≤ 32768 := by
  refine ⟨_, north_W x z, ?_⟩
  have hb := root_sq hx
  generalize sqrtW (mulqW x x) = B at *
  have kH : H0.v = 536870912 := kW_v (by decide)
  have m1 : (mulqW B H0).v = (B.v * 536870912 + 536870912) / 1073741824 := by rw [mulq_is (by rw [kH]; omega), kH]
  have m2 : (mulqW z H0).v = (z.v * 536870912 + 536870912) / 1073741824 := by rw [mulq_is (by rw [kH]; omega), kH]
  have e0 : (subsW (mulqW B H0) (downW x 1)).v = (mulqW B H0).v - x.v / 2 := by rw [subs_is (by rw [m1, down1_is]; omega), down1_is]
  have e2 : (subsW (mulqW z H0) (downW z 1)).v = (mulqW z H0).v - z.v / 2 := by rw [subs_is (by rw [m2, down1_is]; omega), down1_is]
  have b0 : -32769 ≤ (subsW (mulqW B H0) (downW x 1)).v ∧ (subsW (mulqW B H0) (downW x 1)).v ≤ 32770 := by rw [e0, m1]; omega
  have b2 : 0 ≤ (subsW (mulqW z H0) (downW z 1)).v ∧ (subsW (mulqW z H0) (downW z 1)).v ≤ 1 := by rw [e2, m2]; omega
  generalize subsW (mulqW B H0) (downW x 1) = E0 at *
  generalize subsW (mulqW z H0) (downW z 1) = E2 at *
  have nz : (negW z).v = -z.v := by
    show satI (-z.v) = _
    unfold satI; omega
  have p1 := mul_bd (a := (negW z).v) (b := E0.v) (A := 536870912) (B := 32770) (by omega) (by omega)
  have p2 := mul_bd (a := B.v) (b := E2.v) (A := 536936448) (B := 1) (by omega) (by omega)
  have q1 : (mulqW (negW z) E0).v = ((negW z).v * E0.v + 536870912) / 1073741824 := mulq_is (by omega)
  have q2 : (mulqW B E2).v = (B.v * E2.v + 536870912) / 1073741824 := mulq_is (by omega)
  rw [down1_is, adds_is (by rw [q1, q2]; omega), q1, q2]
  omega
end Go.Proofs.Ytbmfcedndbgpoaa
