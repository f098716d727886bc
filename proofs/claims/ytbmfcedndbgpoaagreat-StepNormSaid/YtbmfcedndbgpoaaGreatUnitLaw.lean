/- The length of what Pointing makes. -/
import Derived.Test.YtbmfcedndbgpoaaGreatRootLaw3
import Derived.Test.YtbmfcedndbgpoaaGreatGateLaw
namespace Go.Proofs.YtbmfcedndbgpoaaGreat
open Go.RowKit Go.Deep
set_option linter.unusedVariables false
theorem ab {A B b : Int} (hB : -b ≤ B ∧ B ≤ b) : -((A.natAbs : Int) * b) ≤ A * B ∧ A * B ≤ (A.natAbs : Int) * b := by
  rcases Int.le_total 0 A with h | h
  · rw [Int.natAbs_of_nonneg h]
    have h1 := Int.mul_le_mul_of_nonneg_left hB.1 h
    have h2 := Int.mul_le_mul_of_nonneg_left hB.2 h
    rw [Int.mul_neg] at h1
    omega
  · rw [Int.ofNat_natAbs_of_nonpos h]
    have h1 := Int.mul_le_mul_of_nonpos_left h hB.1
    have h2 := Int.mul_le_mul_of_nonpos_left h hB.2
    rw [Int.mul_neg] at h1
    rw [Int.neg_mul]
    omega
theorem sq_nonneg (x : Int) : 0 ≤ x * x := by
  rcases Int.le_total 0 x with h | h
  · exact Int.mul_nonneg h h
  · exact Int.mul_nonneg_of_nonpos_of_nonpos h h
/-- Three parts, rounded. -/
theorem three {A0 A1 A2 B0 B1 B2 U0 U1 U2 N : Int}
    (h0 : 1073741824 * U0 = A0 + B0) (h1 : 1073741824 * U1 = A1 + B1) (h2 : 1073741824 * U2 = A2 + B2)
    (b0 : -34359738368 ≤ B0 ∧ B0 ≤ 34359738368) (b1 : -34359738368 ≤ B1 ∧ B1 ≤ 34359738368) (b2 : -34359738368 ≤ B2 ∧ B2 ≤ 34359738368)
    (hN : A0 * A0 + A1 * A1 + A2 * A2 = N) (hb : 48 * N ≤ 49 * 1329227995784915872903807060280344576) :
    N - 138649363520000000000000000000 ≤ 1152921504606846976 * (U0 * U0 + U1 * U1 + U2 * U2) ∧ 1152921504606846976 * (U0 * U0 + U1 * U1 + U2 * U2) ≤ N + 138649363520000000000000000000 := by
  have key : 1152921504606846976 * (U0 * U0 + U1 * U1 + U2 * U2) = N + 2 * (A0 * B0 + A1 * B1 + A2 * B2) + (B0 * B0 + B1 * B1 + B2 * B2) := by
    have e0 : 1073741824 * U0 * (1073741824 * U0) = (A0 + B0) * (A0 + B0) := by rw [h0]
    have e1 : 1073741824 * U1 * (1073741824 * U1) = (A1 + B1) * (A1 + B1) := by rw [h1]
    have e2 : 1073741824 * U2 * (1073741824 * U2) = (A2 + B2) * (A2 + B2) := by rw [h2]
    clear h0 h1 h2 b0 b1 b2 hb
    grind
  have c0 := ab (A := A0) b0
  have c1 := ab (A := A1) b1
  have c2 := ab (A := A2) b2
  have d0 := ab (A := B0) b0
  have d1 := ab (A := B1) b1
  have d2 := ab (A := B2) b2
  have f0 : (B0.natAbs : Int) ≤ 34359738368 := by omega
  have f1 : (B1.natAbs : Int) ≤ 34359738368 := by omega
  have f2 : (B2.natAbs : Int) ≤ 34359738368 := by omega
  have s0 := sq_nonneg B0
  have s1 := sq_nonneg B1
  have s2 := sq_nonneg B2
  have hS : (A0.natAbs : Int) + A1.natAbs + A2.natAbs ≤ 2017612633061982208 := by
    refine Int.not_lt.1 (fun hc => ?_)
    have q0 : (A0.natAbs : Int) * A0.natAbs = A0 * A0 := Int.natAbs_mul_self
    have q1 : (A1.natAbs : Int) * A1.natAbs = A1 * A1 := Int.natAbs_mul_self
    have q2 : (A2.natAbs : Int) * A2.natAbs = A2 * A2 := Int.natAbs_mul_self
    generalize (A0.natAbs : Int) = a0 at *
    generalize (A1.natAbs : Int) = a1 at *
    generalize (A2.natAbs : Int) = a2 at *
    have g : 2017612633061982208 * 2017612633061982208 < (a0 + a1 + a2) * (a0 + a1 + a2) := Int.mul_lt_mul hc (Int.le_of_lt hc) (by decide) (Int.le_trans (by decide) (Int.le_of_lt hc))
    have t : (a0 + a1 + a2) * (a0 + a1 + a2) + (a0 - a1) * (a0 - a1) + (a1 - a2) * (a1 - a2) + (a2 - a0) * (a2 - a0) = 3 * N := by
      clear g hc c0 c1 c2 d0 d1 d2 key h0 h1 h2
      grind
    have u0 := sq_nonneg (a0 - a1)
    have u1 := sq_nonneg (a1 - a2)
    have u2 := sq_nonneg (a2 - a0)
    generalize (a0 + a1 + a2) * (a0 + a1 + a2) = X at *
    generalize (a0 - a1) * (a0 - a1) = X0 at *
    generalize (a1 - a2) * (a1 - a2) = X1 at *
    generalize (a2 - a0) * (a2 - a0) = X2 at *
    clear c0 c1 c2 d0 d1 d2 key
    omega
  rw [key]
  clear hN key h0 h1 h2 hb
  generalize A0 * B0 = p0 at *
  generalize A1 * B1 = p1 at *
  generalize A2 * B2 = p2 at *
  generalize B0 * B0 = r0 at *
  generalize B1 * B1 = r1 at *
  generalize B2 * B2 = r2 at *
  omega
theorem up15_is {a : Wd} (h : -65536 ≤ a.v ∧ a.v ≤ 65535) : (upW a 15).v = 32768 * a.v := by
  show Go.RowKit.wrap32 (a.v % 4294967296 * 2 ^ sh 15 % 4294967296) = _
  have : sh 15 = 15 := by decide +kernel
  rw [this]
  unfold Go.RowKit.wrap32
  omega
theorem shl_is {a : Wd} (h : Nat) (H : Int) (hh : h ≤ 6) (hH : H = 2 ^ h) (l : -2147483648 ≤ H * a.v) (r : H * a.v ≤ 2147483647) : (shlW a (kW h)).v = H * a.v := by
  show Go.RowKit.wrap32 (a.v % 4294967296 * 2 ^ sh (kW h).v % 4294967296) = _
  have e : sh (kW h).v = h := by
    have : ∀ h : Nat, h ≤ 6 → sh (kW h).v = h := by decide +kernel
    exact this h hh
  rw [e]
  have hc : h = 0 ∨ h = 1 ∨ h = 2 ∨ h = 3 ∨ h = 4 ∨ h = 5 ∨ h = 6 := by omega
  unfold Go.RowKit.wrap32
  rcases hc with rfl | rfl | rfl | rfl | rfl | rfl | rfl <;> subst hH <;> simp only [Int.reducePow] at * <;> omega
end Go.Proofs.YtbmfcedndbgpoaaGreat
