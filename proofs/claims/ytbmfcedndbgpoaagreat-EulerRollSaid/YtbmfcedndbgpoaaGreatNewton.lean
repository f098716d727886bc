/- Newton's step for 1 by a root, in whole numbers. N = 2^30. -/
import Derived.Test.YtbmfcedndbgpoaaGreatWd
namespace Go.Proofs.YtbmfcedndbgpoaaGreat
set_option linter.unusedVariables false
theorem sq_nonneg (x : Int) : 0 ≤ x * x := by
  rcases Int.le_total 0 x with h | h
  · exact Int.mul_nonneg h h
  · exact Int.mul_nonneg_of_nonpos_of_nonpos h h
theorem mul_bd {a b A B : Int} (ha : -A ≤ a ∧ a ≤ A) (hb : -B ≤ b ∧ b ≤ B) : -(A * B) ≤ a * b ∧ a * b ≤ A * B := by
  have h : (a * b).natAbs ≤ A.natAbs * B.natAbs := by
    rw [Int.natAbs_mul]
    exact Nat.mul_le_mul (by omega) (by omega)
  have hA : (A.natAbs : Int) = A := by omega
  have hB : (B.natAbs : Int) = B := by omega
  have h2 : ((a * b).natAbs : Int) ≤ A * B := by
    have : ((a * b).natAbs : Int) ≤ ((A.natAbs * B.natAbs : Nat) : Int) := by exact_mod_cast h
    rw [Int.natCast_mul, hA, hB] at this
    exact this
  omega
/-- One step: D tells how far 4uy² is from N³. -/
theorem newton {u y yy w e ye hf z D N : Int} (hN : N = 1073741824)
    (hu : 0 ≤ u ∧ u ≤ N) (hy : 0 ≤ y ∧ 5 * y ≤ 6 * N)
    (h1 : -N ≤ 2 * (N * yy - y * y) ∧ 2 * (N * yy - y * y) ≤ N)
    (h2 : -N ≤ 2 * (N * w - u * yy) ∧ 2 * (N * w - u * yy) ≤ N)
    (h3 : e = N - 4 * w)
    (h4 : -N ≤ 2 * (N * ye - y * e) ∧ 2 * (N * ye - y * e) ≤ N)
    (h5 : 2 * hf ≤ ye ∧ ye ≤ 2 * hf + 1) (h6 : z = y + hf)
    (hD : D = 4 * (u * (y * y)) - N * N * N) :
    ∃ F : Int, 2 * (N * N * N) * z = y * (2 * (N * N * N) - D) + F ∧ -(7 * (N * N * N)) ≤ F ∧ F ≤ 7 * (N * N * N) := by
  obtain ⟨r1, hr1⟩ : ∃ r, r = N * yy - y * y := ⟨_, rfl⟩
  obtain ⟨r2, hr2⟩ : ∃ r, r = N * w - u * yy := ⟨_, rfl⟩
  obtain ⟨r3, hr3⟩ : ∃ r, r = N * ye - y * e := ⟨_, rfl⟩
  obtain ⟨b, hb⟩ : ∃ b, b = ye - 2 * hf := ⟨_, rfl⟩
  rw [← hr1] at h1
  rw [← hr2] at h2
  rw [← hr3] at h4
  refine ⟨y * (-(4 * (u * r1 + N * r2))) + N * N * r3 - N * N * N * b, ?_, ?_, ?_⟩
  · grind
  all_goals
    have q1 := mul_bd (a := u) (b := 2 * r1) (A := N) (B := N) (by omega) (by omega)
    have e1 : u * (2 * r1) = 2 * (u * r1) := by grind
    rw [e1] at q1
    have q2 := mul_bd (a := y) (b := 4 * (u * r1 + N * r2)) (A := 1288490189) (B := 4 * (N * N)) (by omega) (by subst hN; omega)
    have e2 : y * (-(4 * (u * r1 + N * r2))) = -(y * (4 * (u * r1 + N * r2))) := by grind
    rw [e2]
    have hb01 : 0 ≤ b ∧ b ≤ 1 := by omega
    clear e1 e2 hr1 hr2 hr3 hD h3 h6
    generalize y * (4 * (u * r1 + N * r2)) = P at *
    subst hN
    omega
/-- What the step leaves. -/
theorem newton_D {u y z D D' F N : Int} (hN : N = 1073741824) (hu : 0 ≤ u ∧ u ≤ N) (hy : 0 ≤ y ∧ 5 * y ≤ 6 * N) (hD : D = 4 * (u * (y * y)) - N * N * N) (hD' : D' = 4 * (u * (z * z)) - N * N * N)
    (hF : 2 * (N * N * N) * z = y * (2 * (N * N * N) - D) + F) (hF1 : -(7 * (N * N * N)) ≤ F) (hF2 : F ≤ 7 * (N * N * N)) (hb : -(2 * (N * N * N)) ≤ 5 * D ∧ 5 * D ≤ 2 * (N * N * N)) :
    ∃ G : Int, 4 * (N * N * N) * (N * N * N) * D' = -(3 * (N * N * N) * (D * D)) + D * D * D + G ∧ -(168 * (N * N * N) * (N * N * N) * (N * N)) ≤ G ∧ G ≤ 168 * (N * N * N) * (N * N * N) * (N * N) := by
  obtain ⟨A, hA⟩ : ∃ A, A = y * (2 * (N * N * N) - D) := ⟨_, rfl⟩
  refine ⟨4 * (u * F * (2 * A + F)), ?_, ?_⟩
  · have h4 : u * (y * y) * 4 = D + N * N * N := by omega
    have h5 : (2 * (N * N * N) * z) * (2 * (N * N * N) * z) = (A + F) * (A + F) := by rw [hF, ← hA]
    grind
  · have q1 := mul_bd (a := u) (b := F) (A := N) (B := 7 * (N * N * N)) (by omega) ⟨hF1, hF2⟩
    have q2 := mul_bd (a := y) (b := 2 * (N * N * N) - D) (A := 1288490189) (B := 2576980378 * (N * N)) (by omega) (by subst hN; omega)
    rw [← hA] at q2
    have q3 := mul_bd (a := u * F) (b := 2 * A + F) (A := N * (7 * (N * N * N))) (B := 6 * (N * N * N) * N) q1 (by subst hN; omega)
    generalize u * F * (2 * A + F) = P at *
    subst hN
    omega
/-- The bound behind a step. -/
theorem step_bd {D D' G d d' M Q : Int} (hM : M = 1237940039285380274899124224) (hQ : Q = 168 * M * M * 1152921504606846976)
    (h : 4 * M * M * D' = -(3 * M * (D * D)) + D * D * D + G) (hD : -d ≤ D ∧ D ≤ d) (hG : -Q ≤ G ∧ G ≤ Q) (hd : 3 * M * (d * d) + d * d * d + Q ≤ 4 * M * M * d') : -d' ≤ D' ∧ D' ≤ d' := by
  have q1 := mul_bd hD hD
  have q2 := mul_bd q1 hD
  generalize D * D * D = x at *
  generalize D * D = y at *
  generalize d * d * d = a at *
  generalize d * d = c at *
  subst hQ
  subst hM
  omega
end Go.Proofs.YtbmfcedndbgpoaaGreat
