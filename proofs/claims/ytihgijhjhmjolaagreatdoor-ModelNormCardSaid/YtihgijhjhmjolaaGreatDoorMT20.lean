/- Texts of this claim, side by side: GateLaw, UnitLaw, UnitLaw2, NormLaw, StepLaw, SensedFar. -/
import Derived.Test.YtihgijhjhmjolaaGreatDoorMT4
import Derived.Test.YtihgijhjhmjolaaGreatDoorMT8
import Derived.Test.YtihgijhjhmjolaaGreatDoorMT19
/- What gates reckon, in plain numbers. -/
namespace Go.Proofs.YtihgijhjhmjolaaGreatDoor
open Go.RowKit Go.Deep
set_option linter.unusedVariables false
theorem or00 : orI 0 0 = 0 := by decide +kernel
theorem or01 : orI 0 1 = 1 := by decide +kernel
theorem or10 : orI 1 0 = 1 := by decide +kernel
theorem or11 : orI 1 1 = 1 := by decide +kernel
theorem gateB_spec (n : Wd) (lo hi : Int) (h0 : 0 ≤ lo) (h1 : lo ≤ 2147483647) (h2 : 0 ≤ hi) (h3 : hi ≤ 2147483647) :
    gateB n lo hi = decide (lo ≤ n.v % 4294967296 ∧ n.v % 4294967296 ≤ hi) := by
  unfold gateB withinW
  show (subI (orI (ltuI n.v (kW lo).v) (ltuI (kW hi).v n.v)) (kW 1).v != 0) = _
  rw [kW_v (show In32 lo from ⟨by omega, by omega⟩), kW_v (show In32 hi from ⟨by omega, by omega⟩), kW_v (show In32 1 by decide)]
  unfold ltuI
  have e1 : lo % 4294967296 = lo := by omega
  have e2 : hi % 4294967296 = hi := by omega
  rw [e1, e2]
  by_cases a : n.v % 4294967296 < lo <;> by_cases b : hi < n.v % 4294967296
  · rw [if_pos a, if_pos b, or11, decide_eq_false (by omega)]; decide +kernel
  · rw [if_pos a, if_neg b, or10, decide_eq_false (by omega)]; decide +kernel
  · rw [if_neg a, if_pos b, or01, decide_eq_false (by omega)]; decide +kernel
  · rw [if_neg a, if_neg b, or00, decide_eq_true (by omega)]; decide +kernel
theorem square_short (a b c : Wd) (ha : -32768 ≤ a.v ∧ a.v ≤ 32767) (hb : -32768 ≤ b.v ∧ b.v ≤ 32767) (hc : -32768 ≤ c.v ∧ c.v ≤ 32767) :
    (squareW a b c).v % 4294967296 = a.v * a.v + b.v * b.v + c.v * c.v ∧ 0 ≤ a.v * a.v ∧ a.v * a.v ≤ 1073741824 ∧ 0 ≤ b.v * b.v ∧ b.v * b.v ≤ 1073741824 ∧ 0 ≤ c.v * c.v ∧ c.v * c.v ≤ 1073741824 := by
  have sq : ∀ x : Int, -32768 ≤ x ∧ x ≤ 32767 → 0 ≤ x * x ∧ x * x ≤ 1073741824 := fun x hx => by
    have h : (x * x).natAbs ≤ 32768 * 32768 := by rw [Int.natAbs_mul]; exact Nat.mul_le_mul (by omega) (by omega)
    have h2 : 0 ≤ x * x := by
      rcases Int.le_total 0 x with h | h
      · exact Int.mul_nonneg h h
      · exact Int.mul_nonneg_of_nonpos_of_nonpos h h
    omega
  have h1 := sq _ ha
  have h2 := sq _ hb
  have h3 := sq _ hc
  refine ⟨?_, h1.1, h1.2, h2.1, h2.2, h3.1, h3.2⟩
  show addI (addI (mulI a.v a.v) (mulI b.v b.v)) (mulI c.v c.v) % 4294967296 = _
  unfold addI mulI
  generalize a.v * a.v = x at *
  generalize b.v * b.v = y at *
  generalize c.v * c.v = z at *
  unfold wrap32
  omega
theorem mul_neg (a : Wd) : mulW ⟨wrap32 (-a.v), in_wrap _⟩ ⟨wrap32 (-a.v), in_wrap _⟩ = mulW a a := by
  apply Wd.ext_
  show mulI (wrap32 (-a.v)) (wrap32 (-a.v)) = mulI a.v a.v
  have h := a.ok
  unfold In32 at h
  by_cases h1 : a.v = -2147483648
  · rw [h1]; decide +kernel
  · rw [show wrap32 (-a.v) = -a.v by unfold wrap32; omega]
    unfold mulI
    rw [Int.neg_mul_neg]
theorem add_rot (x y z : Wd) : addW (addW y z) x = addW (addW x y) z := by
  apply Wd.ext_
  show addI (addI y.v z.v) x.v = addI (addI x.v y.v) z.v
  unfold addI wrap32
  omega
theorem square_rot (a b c : Wd) : squareW b c a = squareW a b c := add_rot _ _ _
end Go.Proofs.YtihgijhjhmjolaaGreatDoor

/- The length of what Pointing makes. -/
namespace Go.Proofs.YtihgijhjhmjolaaGreatDoor
open Go.RowKit Go.Deep
set_option linter.unusedVariables false
theorem ab {A B b : Int} (hB : -b ≤ B ∧ B ≤ b) : -((A.natAbs : Int) * b) ≤ A * B ∧ A * B ≤ (A.natAbs : Int) * b := by
  rcases Int.le_total 0 A with h | h
  · rw [Int.natAbs_of_nonneg h]
    have h1 := Int.mul_le_mul_of_nonneg_left hB.1 h
    have h2 := Int.mul_le_mul_of_nonneg_left hB.2 h
    rw [Int.mul_neg] at h1
    omega
  · rw [Int.ofNat_natAbs_of_nonpos h]
    have h1 := Int.mul_le_mul_of_nonpos_left h hB.1
    have h2 := Int.mul_le_mul_of_nonpos_left h hB.2
    rw [Int.mul_neg] at h1
    rw [Int.neg_mul]
    omega
/-- Three parts, rounded. -/
theorem three {A0 A1 A2 B0 B1 B2 U0 U1 U2 N : Int}
    (h0 : 1073741824 * U0 = A0 + B0) (h1 : 1073741824 * U1 = A1 + B1) (h2 : 1073741824 * U2 = A2 + B2)
    (b0 : -34359738368 ≤ B0 ∧ B0 ≤ 34359738368) (b1 : -34359738368 ≤ B1 ∧ B1 ≤ 34359738368) (b2 : -34359738368 ≤ B2 ∧ B2 ≤ 34359738368)
    (hN : A0 * A0 + A1 * A1 + A2 * A2 = N) (hb : 48 * N ≤ 49 * 1329227995784915872903807060280344576) :
    N - 138649363520000000000000000000 ≤ 1152921504606846976 * (U0 * U0 + U1 * U1 + U2 * U2) ∧ 1152921504606846976 * (U0 * U0 + U1 * U1 + U2 * U2) ≤ N + 138649363520000000000000000000 := by
  have key : 1152921504606846976 * (U0 * U0 + U1 * U1 + U2 * U2) = N + 2 * (A0 * B0 + A1 * B1 + A2 * B2) + (B0 * B0 + B1 * B1 + B2 * B2) := by
    have e0 : 1073741824 * U0 * (1073741824 * U0) = (A0 + B0) * (A0 + B0) := by rw [h0]
    have e1 : 1073741824 * U1 * (1073741824 * U1) = (A1 + B1) * (A1 + B1) := by rw [h1]
    have e2 : 1073741824 * U2 * (1073741824 * U2) = (A2 + B2) * (A2 + B2) := by rw [h2]
    clear h0 h1 h2 b0 b1 b2 hb
    grind
  have c0 := ab (A := A0) b0
  have c1 := ab (A := A1) b1
  have c2 := ab (A := A2) b2
  have d0 := ab (A := B0) b0
  have d1 := ab (A := B1) b1
  have d2 := ab (A := B2) b2
  have f0 : (B0.natAbs : Int) ≤ 34359738368 := by omega
  have f1 : (B1.natAbs : Int) ≤ 34359738368 := by omega
  have f2 : (B2.natAbs : Int) ≤ 34359738368 := by omega
  have s0 := sq_nonneg B0
  have s1 := sq_nonneg B1
  have s2 := sq_nonneg B2
  have hS : (A0.natAbs : Int) + A1.natAbs + A2.natAbs ≤ 2017612633061982208 := by
    refine Int.not_lt.1 (fun hc => ?_)
    have q0 : (A0.natAbs : Int) * A0.natAbs = A0 * A0 := Int.natAbs_mul_self
    have q1 : (A1.natAbs : Int) * A1.natAbs = A1 * A1 := Int.natAbs_mul_self
    have q2 : (A2.natAbs : Int) * A2.natAbs = A2 * A2 := Int.natAbs_mul_self
    generalize (A0.natAbs : Int) = a0 at *
    generalize (A1.natAbs : Int) = a1 at *
    generalize (A2.natAbs : Int) = a2 at *
    have g : 2017612633061982208 * 2017612633061982208 < (a0 + a1 + a2) * (a0 + a1 + a2) := Int.mul_lt_mul hc (Int.le_of_lt hc) (by decide) (Int.le_trans (by decide) (Int.le_of_lt hc))
    have t : (a0 + a1 + a2) * (a0 + a1 + a2) + (a0 - a1) * (a0 - a1) + (a1 - a2) * (a1 - a2) + (a2 - a0) * (a2 - a0) = 3 * N := by
      clear g hc c0 c1 c2 d0 d1 d2 key h0 h1 h2
      grind
    have u0 := sq_nonneg (a0 - a1)
    have u1 := sq_nonneg (a1 - a2)
    have u2 := sq_nonneg (a2 - a0)
    generalize (a0 + a1 + a2) * (a0 + a1 + a2) = X at *
    generalize (a0 - a1) * (a0 - a1) = X0 at *
    generalize (a1 - a2) * (a1 - a2) = X1 at *
    generalize (a2 - a0) * (a2 - a0) = X2 at *
    clear c0 c1 c2 d0 d1 d2 key
    omega
  rw [key]
  clear hN key h0 h1 h2 hb
  generalize A0 * B0 = p0 at *
  generalize A1 * B1 = p1 at *
  generalize A2 * B2 = p2 at *
  generalize B0 * B0 = r0 at *
  generalize B1 * B1 = r1 at *
  generalize B2 * B2 = r2 at *
  omega
theorem up15_is {a : Wd} (h : -65536 ≤ a.v ∧ a.v ≤ 65535) : (upW a 15).v = 32768 * a.v := by
  show Go.RowKit.wrap32 (a.v % 4294967296 * 2 ^ sh 15 % 4294967296) = _
  have : sh 15 = 15 := by decide +kernel
  rw [this]
  unfold Go.RowKit.wrap32
  omega
theorem shl_is {a : Wd} (h : Nat) (H : Int) (hh : h ≤ 6) (hH : H = 2 ^ h) (l : -2147483648 ≤ H * a.v) (r : H * a.v ≤ 2147483647) : (shlW a (kW h)).v = H * a.v := by
  show Go.RowKit.wrap32 (a.v % 4294967296 * 2 ^ sh (kW h).v % 4294967296) = _
  have e : sh (kW h).v = h := by
    have : ∀ h : Nat, h ≤ 6 → sh (kW h).v = h := by decide +kernel
    exact this h hh
  rw [e]
  have hc : h = 0 ∨ h = 1 ∨ h = 2 ∨ h = 3 ∨ h = 4 ∨ h = 5 ∨ h = 6 := by omega
  unfold Go.RowKit.wrap32
  rcases hc with rfl | rfl | rfl | rfl | rfl | rfl | rfl <;> subst hH <;> simp only [Int.reducePow] at * <;> omega
end Go.Proofs.YtihgijhjhmjolaaGreatDoor

/- Pointing's length is 1, its parts have their signs. -/
namespace Go.Proofs.YtihgijhjhmjolaaGreatDoor
open Go.RowKit Go.Deep
set_option linter.unusedVariables false
theorem small {U S : Int} (h : U * U ≤ S) (hS : S < 1152921779484753920) : -1073741952 ≤ U ∧ U ≤ 1073741952 := by
  constructor
  · refine Int.not_lt.1 (fun hc => ?_)
    have : 1073741953 * 1073741953 ≤ (-U) * (-U) := Int.mul_le_mul (by omega) (by omega) (by decide) (by omega)
    rw [Int.neg_mul_neg] at this
    omega
  · refine Int.not_lt.1 (fun hc => ?_)
    have : 1073741953 * 1073741953 ≤ U * U := Int.mul_le_mul (by omega) (by omega) (by decide) (by omega)
    omega
/-- One part. -/
theorem part_is {x z : Wd} (h : Nat) (H : Int) (hh : h ≤ 6) (hH : H = 2 ^ h) (hx : -32768 ≤ x.v ∧ x.v ≤ 32767) (hz : 0 ≤ z.v ∧ z.v ≤ 1288490189)
    (m : Int) (hm : m = (32768 * x.v * z.v + 536870912) / 1073741824) (l : -2147483648 ≤ H * m ∧ H * m ≤ 2147483647) : (scaledW (upW x 15) z (kW h)).v = H * m := by
  have e : (mulqW (upW x 15) z).v = m := by
    rw [mulq_is, up15_is (by omega), hm]
    rw [up15_is (by omega)]
    have := ab (A := z.v) (B := 32768 * x.v) (b := 1073741824) (by omega)
    rw [Int.natAbs_of_nonneg hz.1, Int.mul_comm z.v (32768 * x.v)] at this
    generalize 32768 * x.v * z.v = P at *
    omega
  show (shlW (mulqW (upW x 15) z) (kW h)).v = _
  rw [shl_is h H hh hH (by rw [e]; exact l.1) (by rw [e]; exact l.2), e]
theorem sign_is {x z m H : Int} (hz : 0 ≤ z) (hH : 0 < H) (hm : m = (32768 * x * z + 536870912) / 1073741824) : 0 ≤ (H * m) * x := by
  rcases Int.le_total 0 x with h | h
  · have : 0 ≤ 32768 * x * z := Int.mul_nonneg (by omega) hz
    generalize 32768 * x * z = P at *
    exact Int.mul_nonneg (Int.mul_nonneg (by omega) (by omega)) h
  · have : 32768 * x * z ≤ 0 := Int.mul_nonpos_of_nonpos_of_nonneg (by omega) hz
    generalize 32768 * x * z = P at *
    exact Int.mul_nonneg_of_nonpos_of_nonpos (Int.mul_nonpos_of_nonneg_of_nonpos (by omega) (by omega)) h
theorem point_unit (a b c : Wd) (ha : -32768 ≤ a.v ∧ a.v ≤ 32767) (hb : -32768 ≤ b.v ∧ b.v ≤ 32767) (hc : -32768 ≤ c.v ∧ c.v ≤ 32767)
    (n0 : 1000000 ≤ a.v * a.v + b.v * b.v + c.v * c.v) (n1 : a.v * a.v + b.v * b.v + c.v * c.v ≤ 400000000) :
    ∃ U0 U1 U2 : Int, (pointW a b c).a.v = U0 ∧ (pointW a b c).b.v = U1 ∧ (pointW a b c).c.v = U2 ∧ (-1073741952 ≤ U0 ∧ U0 ≤ 1073741952) ∧ (-1073741952 ≤ U1 ∧ U1 ≤ 1073741952) ∧ (-1073741952 ≤ U2 ∧ U2 ≤ 1073741952) ∧ 0 ≤ U0 * a.v ∧ 0 ≤ U1 * b.v ∧ 0 ≤ U2 * c.v ∧ 1152921229728940032 < U0 * U0 + U1 * U1 + U2 * U2 ∧ U0 * U0 + U1 * U1 + U2 * U2 < 1152921779484753920 := by
  obtain ⟨hs, _⟩ := square_short a b c ha hb hc
  have hok := (squareW a b c).ok
  unfold In32 at hok
  have hn : (squareW a b c).v = a.v * a.v + b.v * b.v + c.v * c.v := by
    generalize a.v * a.v + b.v * b.v + c.v * c.v = n at *
    omega
  obtain ⟨h, H, e2, hh, hH, hH64, hH0, u0, u4, ue, u1⟩ := root_word (x := squareW a b c) (by omega) (by omega)
  obtain ⟨z0, z1, d0, d1⟩ := rootZ_dist (u := rootU (squareW a b c)) (by omega)
  have zz : 0 ≤ (rootZ (rootU (squareW a b c)) 4).v ∧ (rootZ (rootU (squareW a b c)) 4).v ≤ 1288490189 := by omega
  unfold pointW
  rw [e2]
  show ∃ U0 U1 U2 : Int, (scaledW (upW a 15) (rootZ (rootU (squareW a b c)) 4) (kW h)).v = U0 ∧ (scaledW (upW b 15) (rootZ (rootU (squareW a b c)) 4) (kW h)).v = U1 ∧ (scaledW (upW c 15) (rootZ (rootU (squareW a b c)) 4) (kW h)).v = U2 ∧ _
  have hD : dist (rootU (squareW a b c)) (rootZ (rootU (squareW a b c)) 4) = (a.v * a.v + b.v * b.v + c.v * c.v) * (H * H) * ((rootZ (rootU (squareW a b c)) 4).v * (rootZ (rootU (squareW a b c)) 4).v) - 1237940039285380274899124224 := by
    unfold dist
    rw [ue, ← hn, ← Int.mul_assoc 4 (_ / 4), u4]
  rw [hD] at d0 d1
  clear hD ue u4 u0 u1 hs hn hok e2
  generalize rootZ (rootU (squareW a b c)) 4 = z at *
  obtain ⟨m0, k0⟩ : ∃ m, m = (32768 * a.v * z.v + 536870912) / 1073741824 := ⟨_, rfl⟩
  obtain ⟨m1, k1⟩ : ∃ m, m = (32768 * b.v * z.v + 536870912) / 1073741824 := ⟨_, rfl⟩
  obtain ⟨m2, k2⟩ : ∃ m, m = (32768 * c.v * z.v + 536870912) / 1073741824 := ⟨_, rfl⟩
  have rr : ∀ x m : Int, m = (32768 * x * z.v + 536870912) / 1073741824 → 1073741824 * (H * m) = H * (32768 * x * z.v) + H * (1073741824 * m - 32768 * x * z.v) ∧ -34359738368 ≤ H * (1073741824 * m - 32768 * x * z.v) ∧ H * (1073741824 * m - 32768 * x * z.v) ≤ 34359738368 := by
    intro x m hm
    have hr : -536870912 ≤ 1073741824 * m - 32768 * x * z.v ∧ 1073741824 * m - 32768 * x * z.v ≤ 536870912 := by
      generalize 32768 * x * z.v = P at *
      omega
    refine ⟨?_, ?_⟩
    · rw [Int.mul_sub]
      have : H * (1073741824 * m) = 1073741824 * (H * m) := Int.mul_left_comm _ _ _
      omega
    · have := ab (A := H) hr
      rw [Int.natAbs_of_nonneg (by omega)] at this
      omega
  obtain ⟨p0, p0'⟩ := rr _ _ k0
  obtain ⟨p1, p1'⟩ := rr _ _ k1
  obtain ⟨p2, p2'⟩ := rr _ _ k2
  have hN : H * (32768 * a.v * z.v) * (H * (32768 * a.v * z.v)) + H * (32768 * b.v * z.v) * (H * (32768 * b.v * z.v)) + H * (32768 * c.v * z.v) * (H * (32768 * c.v * z.v)) = 1073741824 * ((a.v * a.v + b.v * b.v + c.v * c.v) * (H * H) * (z.v * z.v)) := by
    clear d0 d1 n0 n1 rr p0 p1 p2 p0' p1' p2' k0 k1 k2 hH
    grind
  generalize (a.v * a.v + b.v * b.v + c.v * c.v) * (H * H) * (z.v * z.v) = N at *
  obtain ⟨t0, t1⟩ := three p0 p1 p2 p0' p1' p2' hN (by omega)
  clear rr p0 p1 p2 p0' p1' p2' hN
  have s0 := sq_nonneg (H * m0)
  have s1 := sq_nonneg (H * m1)
  have s2 := sq_nonneg (H * m2)
  have f0 : 1152921229728940032 < H * m0 * (H * m0) + H * m1 * (H * m1) + H * m2 * (H * m2) := by omega
  have f1 : H * m0 * (H * m0) + H * m1 * (H * m1) + H * m2 * (H * m2) < 1152921779484753920 := by omega
  have v0 := small (U := H * m0) (S := H * m0 * (H * m0) + H * m1 * (H * m1) + H * m2 * (H * m2)) (by omega) f1
  have v1 := small (U := H * m1) (S := H * m0 * (H * m0) + H * m1 * (H * m1) + H * m2 * (H * m2)) (by omega) f1
  have v2 := small (U := H * m2) (S := H * m0 * (H * m0) + H * m1 * (H * m1) + H * m2 * (H * m2)) (by omega) f1
  exact ⟨H * m0, H * m1, H * m2, part_is h H hh hH ha zz m0 k0 (by omega), part_is h H hh hH hb zz m1 k1 (by omega), part_is h H hh hH hc zz m2 k2 (by omega), v0, v1, v2, sign_is zz.1 hH0 k0, sign_is zz.1 hH0 k1, sign_is zz.1 hH0 k2, f0, f1⟩
end Go.Proofs.YtihgijhjhmjolaaGreatDoor

/- The norm of what Unit makes is near 1. -/
namespace Go.Proofs.YtihgijhjhmjolaaGreatDoor
open Go.RowKit Go.Deep
set_option linter.unusedVariables false
theorem kn_bd {n N u z H r s : Int} (hH : H = 1 ∨ H = 2 ∧ 536870912 ≤ u) (h1 : 1073741824 * N = n + s) (hs : -2147483648 ≤ s ∧ s ≤ 2147483648) (h2 : 4 * u = N * (H * H) - r) (hr : 0 ≤ r ∧ r ≤ 3) (hu : 268435456 ≤ u)
    (hd : -48430741160944183193 ≤ 4 * (u * (z * z)) - 1237940039285380274899124224 ∧ 4 * (u * (z * z)) - 1237940039285380274899124224 ≤ 48430741160944183193) :
    1329227995784915872903807060280344576 - 60700000000000000000000000000 ≤ H * z * (H * z) * n ∧ H * z * (H * z) * n ≤ 1329227995784915872903807060280344576 + 60700000000000000000000000000 := by
  have hZ : 0 ≤ z * z := sq_nonneg z
  have e1 : H * z * (H * z) * n = 1073741824 * (4 * (u * (z * z))) + 1073741824 * (r * (z * z)) - H * H * ((z * z) * s) := by
    clear hH hs hr hu hd hZ
    grind
  have t := ab (A := z * z) hs
  rw [Int.natAbs_of_nonneg hZ] at t
  have p0 : 0 ≤ r * (z * z) := Int.mul_nonneg hr.1 hZ
  have p1 : r * (z * z) ≤ 3 * (z * z) := Int.mul_le_mul_of_nonneg_right hr.2 hZ
  rw [e1]
  clear e1 h1 h2
  rcases hH with rfl | ⟨rfl, hu2⟩
  · have q : 268435456 * (z * z) ≤ u * (z * z) := Int.mul_le_mul_of_nonneg_right hu hZ
    generalize z * z * s = T at *
    generalize r * (z * z) = p at *
    generalize u * (z * z) = Q at *
    generalize z * z = Z at *
    omega
  · have q : 536870912 * (z * z) ≤ u * (z * z) := Int.mul_le_mul_of_nonneg_right hu2 hZ
    generalize z * z * s = T at *
    generalize r * (z * z) = p at *
    generalize u * (z * z) = Q at *
    generalize z * z = Z at *
    omega
theorem abs_of_sq {A M : Int} (hM : 0 ≤ M) (h : A * A ≤ M * M) : -M ≤ A ∧ A ≤ M := by
  constructor
  · refine Int.not_lt.1 (fun hc => ?_)
    have : (M + 1) * (M + 1) ≤ (-A) * (-A) := Int.mul_le_mul (by omega) (by omega) (by omega) (by omega)
    rw [Int.neg_mul_neg] at this
    have e : (M + 1) * (M + 1) = M * M + 2 * M + 1 := by grind
    omega
  · refine Int.not_lt.1 (fun hc => ?_)
    have : (M + 1) * (M + 1) ≤ A * A := Int.mul_le_mul (by omega) (by omega) (by omega) (by omega)
    have e : (M + 1) * (M + 1) = M * M + 2 * M + 1 := by grind
    omega
/-- Four parts, rounded. -/
theorem four {A0 A1 A2 A3 B0 B1 B2 B3 U0 U1 U2 U3 N : Int}
    (h0 : 1073741824 * U0 = A0 + B0) (h1 : 1073741824 * U1 = A1 + B1) (h2 : 1073741824 * U2 = A2 + B2) (h3 : 1073741824 * U3 = A3 + B3)
    (b0 : -1073741824 ≤ B0 ∧ B0 ≤ 1073741824) (b1 : -1073741824 ≤ B1 ∧ B1 ≤ 1073741824) (b2 : -1073741824 ≤ B2 ∧ B2 ≤ 1073741824) (b3 : -1073741824 ≤ B3 ∧ B3 ≤ 1073741824)
    (hN : A0 * A0 + A1 * A1 + A2 * A2 + A3 * A3 = N) (hb : N ≤ 1329227995784915872903807060280344576 + 60700000000000000000000000000) :
    N - 5000000000000000000000000000 ≤ 1152921504606846976 * (U0 * U0 + U1 * U1 + U2 * U2 + U3 * U3) ∧ 1152921504606846976 * (U0 * U0 + U1 * U1 + U2 * U2 + U3 * U3) ≤ N + 5000000000000000000000000000 := by
  have key : 1152921504606846976 * (U0 * U0 + U1 * U1 + U2 * U2 + U3 * U3) = N + 2 * (A0 * B0 + A1 * B1 + A2 * B2 + A3 * B3) + (B0 * B0 + B1 * B1 + B2 * B2 + B3 * B3) := by
    have e0 : 1073741824 * U0 * (1073741824 * U0) = (A0 + B0) * (A0 + B0) := by rw [h0]
    have e1 : 1073741824 * U1 * (1073741824 * U1) = (A1 + B1) * (A1 + B1) := by rw [h1]
    have e2 : 1073741824 * U2 * (1073741824 * U2) = (A2 + B2) * (A2 + B2) := by rw [h2]
    have e3 : 1073741824 * U3 * (1073741824 * U3) = (A3 + B3) * (A3 + B3) := by rw [h3]
    clear h0 h1 h2 h3 b0 b1 b2 b3 hb
    grind
  have c0 := ab (A := A0) b0
  have c1 := ab (A := A1) b1
  have c2 := ab (A := A2) b2
  have c3 := ab (A := A3) b3
  have d0 := ab (A := B0) b0
  have d1 := ab (A := B1) b1
  have d2 := ab (A := B2) b2
  have d3 := ab (A := B3) b3
  have f0 : (B0.natAbs : Int) ≤ 1073741824 := by omega
  have f1 : (B1.natAbs : Int) ≤ 1073741824 := by omega
  have f2 : (B2.natAbs : Int) ≤ 1073741824 := by omega
  have f3 : (B3.natAbs : Int) ≤ 1073741824 := by omega
  have s0 := sq_nonneg B0
  have s1 := sq_nonneg B1
  have s2 := sq_nonneg B2
  have s3 := sq_nonneg B3
  have hS : (A0.natAbs : Int) + A1.natAbs + A2.natAbs + A3.natAbs ≤ 2305844000000000000 := by
    refine Int.not_lt.1 (fun hc => ?_)
    have q0 : (A0.natAbs : Int) * A0.natAbs = A0 * A0 := Int.natAbs_mul_self
    have q1 : (A1.natAbs : Int) * A1.natAbs = A1 * A1 := Int.natAbs_mul_self
    have q2 : (A2.natAbs : Int) * A2.natAbs = A2 * A2 := Int.natAbs_mul_self
    have q3 : (A3.natAbs : Int) * A3.natAbs = A3 * A3 := Int.natAbs_mul_self
    generalize (A0.natAbs : Int) = a0 at *
    generalize (A1.natAbs : Int) = a1 at *
    generalize (A2.natAbs : Int) = a2 at *
    generalize (A3.natAbs : Int) = a3 at *
    have g : 2305844000000000000 * 2305844000000000000 < (a0 + a1 + a2 + a3) * (a0 + a1 + a2 + a3) := Int.mul_lt_mul hc (Int.le_of_lt hc) (by decide) (Int.le_trans (by decide) (Int.le_of_lt hc))
    have t : (a0 + a1 + a2 + a3) * (a0 + a1 + a2 + a3) + (a0 - a1) * (a0 - a1) + (a1 - a2) * (a1 - a2) + (a2 - a3) * (a2 - a3) + (a3 - a0) * (a3 - a0) + (a0 - a2) * (a0 - a2) + (a1 - a3) * (a1 - a3) = 4 * N := by
      clear g hc c0 c1 c2 c3 d0 d1 d2 d3 key h0 h1 h2 h3
      grind
    have u0 := sq_nonneg (a0 - a1)
    have u1 := sq_nonneg (a1 - a2)
    have u2 := sq_nonneg (a2 - a3)
    have u3 := sq_nonneg (a3 - a0)
    have u4 := sq_nonneg (a0 - a2)
    have u5 := sq_nonneg (a1 - a3)
    generalize (a0 + a1 + a2 + a3) * (a0 + a1 + a2 + a3) = X at *
    generalize (a0 - a1) * (a0 - a1) = X0 at *
    generalize (a1 - a2) * (a1 - a2) = X1 at *
    generalize (a2 - a3) * (a2 - a3) = X2 at *
    generalize (a3 - a0) * (a3 - a0) = X3 at *
    generalize (a0 - a2) * (a0 - a2) = X4 at *
    generalize (a1 - a3) * (a1 - a3) = X5 at *
    clear c0 c1 c2 c3 d0 d1 d2 d3 key
    omega
  rw [key]
  clear hN key h0 h1 h2 h3 hb
  generalize A0 * B0 = p0 at *
  generalize A1 * B1 = p1 at *
  generalize A2 * B2 = p2 at *
  generalize A3 * B3 = p3 at *
  generalize B0 * B0 = r0 at *
  generalize B1 * B1 = r1 at *
  generalize B2 * B2 = r2 at *
  generalize B3 * B3 = r3 at *
  omega
/-- A square, rounded. -/
theorem sq_is {g : Wd} (hg : g.v * g.v ≤ 2305843000000000000) : 0 ≤ (mulqW g g).v ∧ -536870912 ≤ 1073741824 * (mulqW g g).v - g.v * g.v ∧ 1073741824 * (mulqW g g).v - g.v * g.v ≤ 536870912 := by
  have p : 0 ≤ g.v * g.v := sq_nonneg _
  rw [mulq_is (by generalize g.v * g.v = P at *; omega)]
  generalize g.v * g.v = P at *
  omega
/-- The norm of words whose squares come to less than 2. -/
theorem norm_is {a b c d : Wd} (hn : a.v * a.v + b.v * b.v + c.v * c.v + d.v * d.v ≤ 2305843000000000000) :
    (normW a [b, c, d]).v = (mulqW a a).v + (mulqW b b).v + (mulqW c c).v + (mulqW d d).v ∧
    ∃ s : Int, 1073741824 * (normW a [b, c, d]).v = a.v * a.v + b.v * b.v + c.v * c.v + d.v * d.v + s ∧ -2147483648 ≤ s ∧ s ≤ 2147483648 := by
  have n0 := sq_nonneg a.v
  have n1 := sq_nonneg b.v
  have n2 := sq_nonneg c.v
  have n3 := sq_nonneg d.v
  obtain ⟨a0, a1, a2⟩ := sq_is (g := a) (by omega)
  obtain ⟨b0, b1, b2⟩ := sq_is (g := b) (by omega)
  obtain ⟨c0, c1, c2⟩ := sq_is (g := c) (by omega)
  obtain ⟨d0, d1, d2⟩ := sq_is (g := d) (by omega)
  have e : (normW a [b, c, d]).v = (mulqW a a).v + (mulqW b b).v + (mulqW c c).v + (mulqW d d).v := by
    have s1 : (addsW (mulqW a a) (mulqW b b)).v = (mulqW a a).v + (mulqW b b).v := adds_is (by omega)
    have s2 : (addsW (addsW (mulqW a a) (mulqW b b)) (mulqW c c)).v = (mulqW a a).v + (mulqW b b).v + (mulqW c c).v := by rw [adds_is (by rw [s1]; omega), s1]
    show (addsW (addsW (addsW (mulqW a a) (mulqW b b)) (mulqW c c)) (mulqW d d)).v = _
    rw [adds_is (by rw [s2]; omega), s2]
  refine ⟨e, 1073741824 * (normW a [b, c, d]).v - (a.v * a.v + b.v * b.v + c.v * c.v + d.v * d.v), by omega, ?_, ?_⟩ <;> rw [e] <;> omega
/-- One part, scaled. -/
theorem scaled_is {x z : Wd} {h : Nat} {H : Int} (hh : h ≤ 6) (hH : H = 2 ^ h) (hH0 : 0 < H) (hH2 : H ≤ 2) (hx : x.v * x.v ≤ 2305843000000000000) (hz : 0 ≤ z.v ∧ z.v ≤ 1288490189) :
    ∃ m : Int, (mulqW x z).v = m ∧ 1073741824 * (H * m) = H * z.v * x.v + (1073741824 * (H * m) - H * z.v * x.v) ∧ -1073741824 ≤ 1073741824 * (H * m) - H * z.v * x.v ∧ 1073741824 * (H * m) - H * z.v * x.v ≤ 1073741824 ∧
      (-2147483648 ≤ H * m → H * m ≤ 2147483647 → (scaledW x z (kW h)).v = H * m) := by
  have xx := abs_of_sq (A := x.v) (M := 1518500250) (by decide) (by omega)
  have e : (mulqW x z).v = (x.v * z.v + 536870912) / 1073741824 := by
    apply mulq_is
    have := mul_bd xx (show -1288490189 ≤ z.v ∧ z.v ≤ 1288490189 by omega)
    generalize x.v * z.v = P at *
    omega
  refine ⟨_, rfl, by omega, ?_, ?_, fun l r => ?_⟩
  · have hr : -536870912 ≤ 1073741824 * (mulqW x z).v - z.v * x.v ∧ 1073741824 * (mulqW x z).v - z.v * x.v ≤ 536870912 := by
      rw [e, Int.mul_comm z.v]
      generalize x.v * z.v = P at *
      omega
    have e1 : 1073741824 * (H * (mulqW x z).v) - H * z.v * x.v = H * (1073741824 * (mulqW x z).v - z.v * x.v) := by
      clear hr e xx hx hz hH
      grind
    rw [e1]
    have := ab (A := H) hr
    rw [Int.natAbs_of_nonneg (by omega)] at this
    omega
  · have hr : -536870912 ≤ 1073741824 * (mulqW x z).v - z.v * x.v ∧ 1073741824 * (mulqW x z).v - z.v * x.v ≤ 536870912 := by
      rw [e, Int.mul_comm z.v]
      generalize x.v * z.v = P at *
      omega
    have e1 : 1073741824 * (H * (mulqW x z).v) - H * z.v * x.v = H * (1073741824 * (mulqW x z).v - z.v * x.v) := by
      clear hr e xx hx hz hH
      grind
    rw [e1]
    have := ab (A := H) hr
    rw [Int.natAbs_of_nonneg (by omega)] at this
    omega
  · show (shlW (mulqW x z) (kW h)).v = _
    exact shl_is h H hh hH l r
/-- All that is used of Unit: each part is k by 2^30 times what it was, but for a rounding; k times k times the squares are near to 2^120; the squares behind are near to 2^60. -/
theorem unit_law (a b c d : Wd) (n : Int) (hn : n = a.v * a.v + b.v * b.v + c.v * c.v + d.v * d.v) (n0 : 576460754500000000 ≤ n) (n1 : n ≤ 2305843000000000000) :
    ∃ k U0 U1 U2 U3 : Int, 0 ≤ k ∧ (unitW a b c d).a.v = U0 ∧ (unitW a b c d).b.v = U1 ∧ (unitW a b c d).c.v = U2 ∧ (unitW a b c d).d.v = U3 ∧
      (-1073741824 ≤ 1073741824 * U0 - k * a.v ∧ 1073741824 * U0 - k * a.v ≤ 1073741824) ∧ (-1073741824 ≤ 1073741824 * U1 - k * b.v ∧ 1073741824 * U1 - k * b.v ≤ 1073741824) ∧
      (-1073741824 ≤ 1073741824 * U2 - k * c.v ∧ 1073741824 * U2 - k * c.v ≤ 1073741824) ∧ (-1073741824 ≤ 1073741824 * U3 - k * d.v ∧ 1073741824 * U3 - k * d.v ≤ 1073741824) ∧
      1329227995784915872903807060280344576 - 60700000000000000000000000000 ≤ k * k * n ∧ k * k * n ≤ 1329227995784915872903807060280344576 + 60700000000000000000000000000 ∧
      1152921504606846976 - 57000000000 ≤ U0 * U0 + U1 * U1 + U2 * U2 + U3 * U3 ∧ U0 * U0 + U1 * U1 + U2 * U2 + U3 * U3 ≤ 1152921504606846976 + 57000000000 := by
  have q0 := sq_nonneg a.v
  have q1 := sq_nonneg b.v
  have q2 := sq_nonneg c.v
  have q3 := sq_nonneg d.v
  obtain ⟨_, s, hs, hs1⟩ := norm_is (a := a) (b := b) (c := c) (d := d) (by omega)
  rw [← hn] at hs
  have hroot : ∃ (h : Nat) (H r : Int), (rootW (normW a [b, c, d])).2 = kW h ∧ h ≤ 6 ∧ H = 2 ^ h ∧ (H = 1 ∨ H = 2 ∧ 536870912 ≤ (rootU (normW a [b, c, d])).v) ∧ 4 * (rootU (normW a [b, c, d])).v = (normW a [b, c, d]).v * (H * H) - r ∧ 0 ≤ r ∧ r ≤ 3 ∧ 268435456 ≤ (rootU (normW a [b, c, d])).v ∧ (rootU (normW a [b, c, d])).v < 1073741824 := by
    have ok := (normW a [b, c, d]).ok
    unfold In32 at ok
    by_cases c0 : 1073741824 ≤ (normW a [b, c, d]).v
    · obtain ⟨e1, e2⟩ := root_0 (x := normW a [b, c, d]) c0
      exact ⟨0, 1, (normW a [b, c, d]).v % 4, Wd.ext_ (e2.trans (by decide +kernel)), by decide, by decide, .inl rfl, by omega, by omega, by omega, by omega, by omega⟩
    · obtain ⟨e1, e2⟩ := root_1 (x := normW a [b, c, d]) (by omega) (by omega)
      exact ⟨1, 2, 0, Wd.ext_ (e2.trans (by decide +kernel)), by decide, by decide, .inr ⟨rfl, by omega⟩, by omega, by omega, by omega, by omega, by omega⟩
  obtain ⟨h, H, r, e2, hh, hH, hH12, hur, r0, r3, u0, u1⟩ := hroot
  obtain ⟨z0, z1, d0, d1⟩ := rootZ_dist (u := rootU (normW a [b, c, d])) ⟨u0, u1⟩
  have hk := kn_bd hH12 hs hs1 hur ⟨r0, r3⟩ u0 ⟨d0, d1⟩
  have hH0 : 0 < H ∧ H ≤ 2 := by omega
  have zz : 0 ≤ (rootZ (rootU (normW a [b, c, d])) 4).v ∧ (rootZ (rootU (normW a [b, c, d])) 4).v ≤ 1288490189 := by omega
  unfold unitW
  rw [e2]
  show ∃ k U0 U1 U2 U3 : Int, 0 ≤ k ∧ (scaledW a (rootZ (rootU (normW a [b, c, d])) 4) (kW h)).v = U0 ∧ (scaledW b (rootZ (rootU (normW a [b, c, d])) 4) (kW h)).v = U1 ∧ (scaledW c (rootZ (rootU (normW a [b, c, d])) 4) (kW h)).v = U2 ∧ (scaledW d (rootZ (rootU (normW a [b, c, d])) 4) (kW h)).v = U3 ∧ _
  clear d0 d1 u0 u1 hur hH12 e2 hs hs1 z0 z1 r0 r3
  generalize rootZ (rootU (normW a [b, c, d])) 4 = z at *
  obtain ⟨m0, _, p0, p0a, p0b, v0⟩ := scaled_is (x := a) hh hH hH0.1 hH0.2 (by omega) zz
  obtain ⟨m1, _, p1, p1a, p1b, v1⟩ := scaled_is (x := b) hh hH hH0.1 hH0.2 (by omega) zz
  obtain ⟨m2, _, p2, p2a, p2b, v2⟩ := scaled_is (x := c) hh hH hH0.1 hH0.2 (by omega) zz
  obtain ⟨m3, _, p3, p3a, p3b, v3⟩ := scaled_is (x := d) hh hH hH0.1 hH0.2 (by omega) zz
  have hN : H * z.v * a.v * (H * z.v * a.v) + H * z.v * b.v * (H * z.v * b.v) + H * z.v * c.v * (H * z.v * c.v) + H * z.v * d.v * (H * z.v * d.v) = H * z.v * (H * z.v) * n := by
    subst hn
    clear hk p0 p1 p2 p3 p0a p0b p1a p1b p2a p2b p3a p3b v0 v1 v2 v3 q0 q1 q2 q3 n0 n1 hH hh zz hH0
    grind
  obtain ⟨t0, t1⟩ := four p0 p1 p2 p3 ⟨p0a, p0b⟩ ⟨p1a, p1b⟩ ⟨p2a, p2b⟩ ⟨p3a, p3b⟩ hN hk.2
  have g0 : 1152921504606846976 - 57000000000 ≤ H * m0 * (H * m0) + H * m1 * (H * m1) + H * m2 * (H * m2) + H * m3 * (H * m3) := by omega
  have g1 : H * m0 * (H * m0) + H * m1 * (H * m1) + H * m2 * (H * m2) + H * m3 * (H * m3) ≤ 1152921504606846976 + 57000000000 := by omega
  have s0 := sq_nonneg (H * m0)
  have s1 := sq_nonneg (H * m1)
  have s2 := sq_nonneg (H * m2)
  have s3 := sq_nonneg (H * m3)
  have w0 := small (U := H * m0) (S := H * m0 * (H * m0) + H * m1 * (H * m1) + H * m2 * (H * m2) + H * m3 * (H * m3)) (by omega) (by omega)
  have w1 := small (U := H * m1) (S := H * m0 * (H * m0) + H * m1 * (H * m1) + H * m2 * (H * m2) + H * m3 * (H * m3)) (by omega) (by omega)
  have w2 := small (U := H * m2) (S := H * m0 * (H * m0) + H * m1 * (H * m1) + H * m2 * (H * m2) + H * m3 * (H * m3)) (by omega) (by omega)
  have w3 := small (U := H * m3) (S := H * m0 * (H * m0) + H * m1 * (H * m1) + H * m2 * (H * m2) + H * m3 * (H * m3)) (by omega) (by omega)
  exact ⟨H * z.v, H * m0, H * m1, H * m2, H * m3, Int.mul_nonneg (by omega) zz.1, v0 (by omega) (by omega), v1 (by omega) (by omega), v2 (by omega) (by omega), v3 (by omega) (by omega), ⟨p0a, p0b⟩, ⟨p1a, p1b⟩, ⟨p2a, p2b⟩, ⟨p3a, p3b⟩, hk.1, hk.2, g0, g1⟩
end Go.Proofs.YtihgijhjhmjolaaGreatDoor

/- A step's norm stays near 1, no part goes far, and who stays, stays. -/
namespace Go.Proofs.YtihgijhjhmjolaaGreatDoor
open Go.RowKit Go.Deep
set_option linter.unusedVariables false
theorem clip_bd (x : Wd) : -134217728 ≤ (clipW x).v ∧ (clipW x).v ≤ 134217728 := by
  show -134217728 ≤ minI (maxI x.v (kW (-134217728)).v) (kW 134217728).v ∧ minI (maxI x.v (kW (-134217728)).v) (kW 134217728).v ≤ 134217728
  rw [kW_v (show In32 (-134217728) by decide), kW_v (show In32 134217728 by decide)]
  unfold minI maxI
  constructor <;> (repeat' split) <;> omega
theorem part_far {q : Wd} (hq : -1342177280 ≤ q.v ∧ q.v ≤ 1342177280) (r b ga : Wd) : ∃ e : Int, (partW q r b ga).v = q.v + e ∧ -134217728 ≤ e ∧ e ≤ 134217728 := by
  have h := clip_bd (subsW r (andW (downW b 8) ga))
  exact ⟨_, adds_is (by omega), h⟩
theorem sq_le {e M : Int} (h : -M ≤ e ∧ e ≤ M) : e * e ≤ M * M := (mul_bd h h).2
/-- The squares of what is ahead of Unit. -/
theorem ahead_bd {q0 q1 q2 q3 e0 e1 e2 e3 : Int} (h : q0 * q0 + q1 * q1 + q2 * q2 + q3 * q3 - 1152921504606846976 < 68719476736) (h' : -68719476736 < q0 * q0 + q1 * q1 + q2 * q2 + q3 * q3 - 1152921504606846976)
    (b0 : -134217728 ≤ e0 ∧ e0 ≤ 134217728) (b1 : -134217728 ≤ e1 ∧ e1 ≤ 134217728) (b2 : -134217728 ≤ e2 ∧ e2 ≤ 134217728) (b3 : -134217728 ≤ e3 ∧ e3 ≤ 134217728) :
    648518294000000000 ≤ (q0 + e0) * (q0 + e0) + (q1 + e1) * (q1 + e1) + (q2 + e2) * (q2 + e2) + (q3 + e3) * (q3 + e3) ∧ (q0 + e0) * (q0 + e0) + (q1 + e1) * (q1 + e1) + (q2 + e2) * (q2 + e2) + (q3 + e3) * (q3 + e3) ≤ 1801440000000000000 := by
  have k0 := sq_le b0
  have k1 := sq_le b1
  have k2 := sq_le b2
  have k3 := sq_le b3
  have lo : ∀ q e : Int, 3 * (q * q) ≤ 4 * ((q + e) * (q + e)) + 12 * (e * e) := fun q e => by
    have := sq_nonneg (q + 4 * e)
    have t : (q + 4 * e) * (q + 4 * e) = 4 * ((q + e) * (q + e)) + 12 * (e * e) - 3 * (q * q) := by grind
    omega
  have hi : ∀ q e : Int, 4 * ((q + e) * (q + e)) ≤ 5 * (q * q) + 20 * (e * e) := fun q e => by
    have := sq_nonneg (q - 4 * e)
    have t : (q - 4 * e) * (q - 4 * e) = 5 * (q * q) + 20 * (e * e) - 4 * ((q + e) * (q + e)) := by grind
    omega
  have l0 := lo q0 e0
  have l1 := lo q1 e1
  have l2 := lo q2 e2
  have l3 := lo q3 e3
  have r0 := hi q0 e0
  have r1 := hi q1 e1
  have r2 := hi q2 e2
  have r3 := hi q3 e3
  clear lo hi
  generalize (q0 + e0) * (q0 + e0) = x0 at *
  generalize (q1 + e1) * (q1 + e1) = x1 at *
  generalize (q2 + e2) * (q2 + e2) = x2 at *
  generalize (q3 + e3) * (q3 + e3) = x3 at *
  generalize q0 * q0 = y0 at *
  generalize q1 * q1 = y1 at *
  generalize q2 * q2 = y2 at *
  generalize q3 * q3 = y3 at *
  generalize e0 * e0 = z0 at *
  generalize e1 * e1 = z1 at *
  generalize e2 * e2 = z2 at *
  generalize e3 * e3 = z3 at *
  omega
/-- One part goes no farther than 3/8 and a little. -/
theorem far_bd {k n q e U : Int} (hk : 0 ≤ k) (n0 : 648518294000000000 ≤ n) (n1 : n ≤ 1801440000000000000) (k0 : 1329227995784915872903807060280344576 - 60700000000000000000000000000 ≤ k * k * n) (k1 : k * k * n ≤ 1329227995784915872903807060280344576 + 60700000000000000000000000000)
    (hv : (q + e) * (q + e) ≤ n) (he : -134217728 ≤ e ∧ e ≤ 134217728) (u0 : -1073741824 ≤ 1073741824 * U - k * (q + e)) (u1 : 1073741824 * U - k * (q + e) ≤ 1073741824) :
    -537919488 < U - q ∧ U - q < 537919488 := by
  have a1 : k ≤ 1432000000 := by
    refine Int.not_lt.1 (fun hc => ?_)
    have h1 : 1432000000 * 1432000000 ≤ k * k := Int.mul_le_mul (by omega) (by omega) (by omega) hk
    have h2 : 1432000000 * 1432000000 * 648518294000000000 ≤ k * k * n := Int.mul_le_mul h1 n0 (by omega) (by omega)
    omega
  have a0 : 858990000 ≤ k := by
    refine Int.not_lt.1 (fun hc => ?_)
    have h1 : k * k ≤ 858990000 * 858990000 := Int.mul_le_mul (by omega) (by omega) hk (by omega)
    have h2 : k * k * n ≤ 858990000 * 858990000 * 1801440000000000000 := Int.mul_le_mul h1 n1 (by omega) (by omega)
    omega
  have hvv := abs_of_sq (A := q + e) (M := 1342177400) (by decide) (by omega)
  have hkv : -1152922000000000000 ≤ k * (q + e) ∧ k * (q + e) ≤ 1152922000000000000 := by
    apply abs_of_sq (by decide)
    have h1 : k * k * ((q + e) * (q + e)) ≤ k * k * n := Int.mul_le_mul_of_nonneg_left hv (Int.mul_nonneg hk hk)
    have e1 : k * (q + e) * (k * (q + e)) = k * k * ((q + e) * (q + e)) := by
      clear h1 hvv hv u0 u1 k0 k1
      grind
    rw [e1]
    omega
  generalize hV : q + e = V at *
  rcases Int.le_total 1073741824 k with h | h
  · have p := ab (A := k - 1073741824) hvv
    rw [Int.natAbs_of_nonneg (by omega)] at p
    -- 4 (k - 2^30) is at most k and a little
    have q1 : ∃ j, j = 1432000000 - k ∧ 0 ≤ j := ⟨_, rfl, by omega⟩
    have ee : (k - 1073741824) * V = k * V - 1073741824 * V := Int.sub_mul _ _ _
    rcases Int.le_total 0 V with hV0 | hV0
    · have s1 : 0 ≤ (k - 1073741824) * V := Int.mul_nonneg (by omega) hV0
      have s2 : 0 ≤ (1432000000 - k) * V := Int.mul_nonneg (by omega) hV0
      have s3 : (1432000000 - k) * V = 1432000000 * V - k * V := Int.sub_mul _ _ _
      generalize k * V = P at *
      omega
    · have s1 : (k - 1073741824) * V ≤ 0 := Int.mul_nonpos_of_nonneg_of_nonpos (by omega) hV0
      have s2 : (1432000000 - k) * V ≤ 0 := Int.mul_nonpos_of_nonneg_of_nonpos (by omega) hV0
      have s3 : (1432000000 - k) * V = 1432000000 * V - k * V := Int.sub_mul _ _ _
      generalize k * V = P at *
      omega
  · have ee : (1073741824 - k) * V = 1073741824 * V - k * V := Int.sub_mul _ _ _
    have p := ab (A := 1073741824 - k) hvv
    rw [Int.natAbs_of_nonneg (by omega)] at p
    generalize k * V = P at *
    omega
/-- A step: the norm stays near 1, and no part goes far. -/
theorem step_law (q0 q1 q2 q3 r0 r1 r2 r3 b0 b1 b2 b3 ga : Wd) (hq : IsQ q0 q1 q2 q3) :
    ∃ U0 U1 U2 U3 : Int, (unitW (partW q0 r0 b0 ga) (partW q1 r1 b1 ga) (partW q2 r2 b2 ga) (partW q3 r3 b3 ga)).a.v = U0 ∧ (unitW (partW q0 r0 b0 ga) (partW q1 r1 b1 ga) (partW q2 r2 b2 ga) (partW q3 r3 b3 ga)).b.v = U1 ∧
      (unitW (partW q0 r0 b0 ga) (partW q1 r1 b1 ga) (partW q2 r2 b2 ga) (partW q3 r3 b3 ga)).c.v = U2 ∧ (unitW (partW q0 r0 b0 ga) (partW q1 r1 b1 ga) (partW q2 r2 b2 ga) (partW q3 r3 b3 ga)).d.v = U3 ∧
      (-1073741952 ≤ U0 ∧ U0 ≤ 1073741952) ∧ (-1073741952 ≤ U1 ∧ U1 ≤ 1073741952) ∧ (-1073741952 ≤ U2 ∧ U2 ≤ 1073741952) ∧ (-1073741952 ≤ U3 ∧ U3 ≤ 1073741952) ∧
      U0 * U0 + U1 * U1 + U2 * U2 + U3 * U3 - 1152921504606846976 < 68719476736 ∧ -68719476736 < U0 * U0 + U1 * U1 + U2 * U2 + U3 * U3 - 1152921504606846976 ∧
      (-537919488 < U0 - q0.v ∧ U0 - q0.v < 537919488) ∧ (-537919488 < U1 - q1.v ∧ U1 - q1.v < 537919488) ∧ (-537919488 < U2 - q2.v ∧ U2 - q2.v < 537919488) ∧ (-537919488 < U3 - q3.v ∧ U3 - q3.v < 537919488) := by
  obtain ⟨h0, h1, h2, h3, n1, n0⟩ := hq
  obtain ⟨e0, p0, a0⟩ := part_far h0 r0 b0 ga
  obtain ⟨e1, p1, a1⟩ := part_far h1 r1 b1 ga
  obtain ⟨e2, p2, a2⟩ := part_far h2 r2 b2 ga
  obtain ⟨e3, p3, a3⟩ := part_far h3 r3 b3 ga
  have hb := ahead_bd n1 n0 a0 a1 a2 a3
  generalize partW q0 r0 b0 ga = x0 at *
  generalize partW q1 r1 b1 ga = x1 at *
  generalize partW q2 r2 b2 ga = x2 at *
  generalize partW q3 r3 b3 ga = x3 at *
  obtain ⟨k, U0, U1, U2, U3, hk, g0, g1, g2, g3, f0, f1, f2, f3, k0, k1, s0, s1⟩ := unit_law x0 x1 x2 x3 ((q0.v + e0) * (q0.v + e0) + (q1.v + e1) * (q1.v + e1) + (q2.v + e2) * (q2.v + e2) + (q3.v + e3) * (q3.v + e3)) (by rw [p0, p1, p2, p3]) (by omega) (by omega)
  rw [p0] at f0
  rw [p1] at f1
  rw [p2] at f2
  rw [p3] at f3
  have y0 := sq_nonneg (q0.v + e0)
  have y1 := sq_nonneg (q1.v + e1)
  have y2 := sq_nonneg (q2.v + e2)
  have y3 := sq_nonneg (q3.v + e3)
  have z0 := sq_nonneg U0
  have z1 := sq_nonneg U1
  have z2 := sq_nonneg U2
  have z3 := sq_nonneg U3
  have w0 := far_bd hk hb.1 hb.2 k0 k1 (by omega) a0 f0.1 f0.2
  have w1 := far_bd hk hb.1 hb.2 k0 k1 (by omega) a1 f1.1 f1.2
  have w2 := far_bd hk hb.1 hb.2 k0 k1 (by omega) a2 f2.1 f2.2
  have w3 := far_bd hk hb.1 hb.2 k0 k1 (by omega) a3 f3.1 f3.2
  clear k0 k1 f0 f1 f2 f3 y0 y1 y2 y3 hb
  exact ⟨U0, U1, U2, U3, g0, g1, g2, g3, small (S := U0 * U0 + U1 * U1 + U2 * U2 + U3 * U3) (by omega) (by omega), small (S := U0 * U0 + U1 * U1 + U2 * U2 + U3 * U3) (by omega) (by omega), small (S := U0 * U0 + U1 * U1 + U2 * U2 + U3 * U3) (by omega) (by omega), small (S := U0 * U0 + U1 * U1 + U2 * U2 + U3 * U3) (by omega) (by omega), by omega, by omega, w0, w1, w2, w3⟩
/-- Who stays: Unit of what is of the norm 1 is as it was, but for 64. -/
theorem stay_law (c s : Wd) (hq : IsQ c (kW 0) (kW 0) s) :
    ∃ U0 U3 : Int, (unitW c (kW 0) (kW 0) s).a.v = U0 ∧ (unitW c (kW 0) (kW 0) s).b.v = 0 ∧ (unitW c (kW 0) (kW 0) s).c.v = 0 ∧ (unitW c (kW 0) (kW 0) s).d.v = U3 ∧
      (-64 ≤ U0 - c.v ∧ U0 - c.v ≤ 64) ∧ (-64 ≤ U3 - s.v ∧ U3 - s.v ≤ 64) := by
  obtain ⟨h0, h1, h2, h3, n1, n0⟩ := hq
  have k0v : (kW 0).v = 0 := kW_v (by decide)
  obtain ⟨k, U0, U1, U2, U3, hk, g0, g1, g2, g3, f0, f1, f2, f3, k0, k1, s0, s1⟩ := unit_law c (kW 0) (kW 0) s _ rfl (by omega) (by omega)
  rw [k0v, Int.mul_zero] at f1 f2
  have y0 := sq_nonneg c.v
  have y3 := sq_nonneg s.v
  rw [k0v] at n0 n1 k0 k1
  have z1 : (unitW c (kW 0) (kW 0) s).b.v = 0 := by
    show wrap32 (satI ((kW 0).v * _ / 1073741824 + (kW 0).v * _ / 536870912 % 2) % 4294967296 * _ % 4294967296) = 0
    rw [k0v, Int.zero_mul]
    rw [show satI (0 / 1073741824 + 0 / 536870912 % 2) % 4294967296 = 0 by decide +kernel, Int.zero_mul]
    decide +kernel
  have z2 : (unitW c (kW 0) (kW 0) s).c.v = 0 := z1
  have kk : 1152921504606846976 - 130000000000 ≤ k * k ∧ k * k ≤ 1152921504606846976 + 130000000000 := by
    generalize c.v * c.v + 0 * 0 + 0 * 0 + s.v * s.v = n at *
    constructor
    · refine Int.not_lt.1 (fun hc => ?_)
      have : k * k * n ≤ (1152921504606846976 - 130000000000) * (1152921504606846976 + 68719476736) := Int.mul_le_mul (by omega) (by omega) (by omega) (by omega)
      omega
    · refine Int.not_lt.1 (fun hc => ?_)
      have : (1152921504606846976 + 130000000000) * (1152921504606846976 - 68719476736) ≤ k * k * n := Int.mul_le_mul (by omega) (by omega) (by omega) (Int.mul_nonneg hk hk)
      omega
  have kb : 1073741824 - 61 ≤ k ∧ k ≤ 1073741824 + 61 := by
    constructor
    · refine Int.not_lt.1 (fun hc => ?_)
      have : k * k ≤ (1073741824 - 62) * (1073741824 - 62) := Int.mul_le_mul (by omega) (by omega) hk (by omega)
      omega
    · refine Int.not_lt.1 (fun hc => ?_)
      have : (1073741824 + 62) * (1073741824 + 62) ≤ k * k := Int.mul_le_mul (by omega) (by omega) (by omega) hk
      omega
  have one : ∀ x U : Int, x * x ≤ 1152921573326323712 → -1073741824 ≤ 1073741824 * U - k * x ∧ 1073741824 * U - k * x ≤ 1073741824 → -64 ≤ U - x ∧ U - x ≤ 64 := by
    intro x U hx hu
    have hxx := abs_of_sq (A := x) (M := 1073741857) (by decide) (by omega)
    have p := ab (A := x) (B := k - 1073741824) (b := 61) (by omega)
    have q : (x.natAbs : Int) ≤ 1073741857 := by omega
    have e : x * (k - 1073741824) = k * x - 1073741824 * x := by
      clear p q hxx hx hu kb kk k0 k1 n0 n1
      grind
    rw [e] at p
    generalize k * x = P at *
    omega
  exact ⟨U0, U3, g0, z1, z2, g3, one _ _ (by omega) f0, one _ _ (by omega) f3⟩
end Go.Proofs.YtihgijhjhmjolaaGreatDoor

/- A step keeps near the norm, as words. -/
namespace Go.Proofs.YtihgijhjhmjolaaGreatDoor
open Go.RowKit Go.Deep
set_option linter.unusedVariables false
/-- A step, as words. -/
theorem sensed_far (a b c d u0 u1 u2 a0 a1 a2 v0 v1 v2 : Wd) (hq : IsQ a b c d) : ∃ x0 x1 x2 x3 : Wd, sensedW a b c d u0 u1 u2 a0 a1 a2 v0 v1 v2 = ⟨x0, x1, x2, x3⟩ ∧ IsQ x0 x1 x2 x3 ∧ (-537919488 < x0.v - a.v ∧ x0.v - a.v < 537919488) ∧ (-537919488 < x1.v - b.v ∧ x1.v - b.v < 537919488) ∧ (-537919488 < x2.v - c.v ∧ x2.v - c.v < 537919488) ∧ (-537919488 < x3.v - d.v ∧ x3.v - d.v < 537919488) := by
  unfold sensedW stepOf
  generalize rateOf a b c d u0 u1 u2 = R
  generalize sensedE a b c d a0 a1 a2 v0 v1 v2 = E
  generalize sensedA a0 a1 a2 = ga
  obtain ⟨U0, U1, U2, U3, e0, e1, e2, e3, r0, r1, r2, r3, n1, n0, f0, f1, f2, f3⟩ := step_law a b c d R.a R.b R.c R.d E.a E.b E.c E.d ga hq
  generalize unitW (partW a R.a E.a ga) (partW b R.b E.b ga) (partW c R.c E.c ga) (partW d R.d E.d ga) = V at *
  obtain ⟨x0, x1, x2, x3⟩ := V
  dsimp only at e0 e1 e2 e3
  refine ⟨x0, x1, x2, x3, rfl, ?_, ?_⟩
  · unfold IsQ
    rw [e0, e1, e2, e3]
    exact ⟨by omega, by omega, by omega, by omega, n1, n0⟩
  · rw [e0, e1, e2, e3]
    exact ⟨f0, f1, f2, f3⟩
end Go.Proofs.YtihgijhjhmjolaaGreatDoor
