/- The angle of a place lies in the place's direction. -/
import Derived.Test.YtbmfcedndbgpoaaTurnI
import Derived.Test.YtbmfcedndbgpoaaBitLaw
import Derived.Test.YtbmfcedndbgpoaaRootLaw3
import Derived.Test.YtbmfcedndbgpoaaWorks10b
namespace Go.Proofs.Ytbmfcedndbgpoaa
open Go.RowKit
set_option linter.unusedVariables false
/-- The turn by a number of parts, either way. -/
def PZ (a : Int) : G := (P a.toNat).mul (P (-a).toNat).conj
theorem PZ_pm (p m : Nat) : ∃ k : Int, 0 < k ∧ (P p).mul (P m).conj = (PZ ((p : Int) - m)).by k := by
  rcases Nat.le_total m p with h | h
  · refine ⟨(P m).sq, P_sq_pos m, ?_⟩
    obtain ⟨c, rfl⟩ := Nat.exists_eq_add_of_le h
    unfold PZ
    rw [show (((m + c : Nat) : Int) - m).toNat = c by omega, show (-(((m + c : Nat) : Int) - m)).toNat = 0 by omega, P_add, ← G.real_mul, ← G.mul_conj]
    rw [show (P 0).conj = G.mk 1 0 from rfl, G.mul_comm (P c) (G.mk 1 0), G.one_mul]
    ac_rfl
  · refine ⟨(P p).sq, P_sq_pos p, ?_⟩
    obtain ⟨c, rfl⟩ := Nat.exists_eq_add_of_le h
    unfold PZ
    rw [show ((p : Int) - ((p + c : Nat) : Int)).toNat = 0 by omega, show (-((p : Int) - ((p + c : Nat) : Int))).toNat = c by omega, P_add, G.conj_mul, ← G.real_mul, ← G.mul_conj]
    rw [show P 0 = G.mk 1 0 from rfl, G.one_mul]
    ac_rfl
theorem PZ_add (a b : Int) : ∃ k : Int, 0 < k ∧ (PZ a).mul (PZ b) = (PZ (a + b)).by k := by
  obtain ⟨k, hk, e⟩ := PZ_pm (a.toNat + b.toNat) ((-a).toNat + (-b).toNat)
  refine ⟨k, hk, ?_⟩
  rw [show ((a.toNat + b.toNat : Nat) : Int) - ((-a).toNat + (-b).toNat : Nat) = a + b by omega] at e
  rw [← e, P_add, P_add, G.conj_mul]
  unfold PZ
  ac_rfl
theorem PZ_neg (a : Int) : PZ (-a) = (PZ a).conj := by
  unfold PZ
  rw [G.conj_mul, G.conj_conj, Int.neg_neg, G.mul_comm]
theorem PZ_nat (n : Nat) : PZ n = P n := by
  unfold PZ
  rw [show ((n : Int)).toNat = n by omega, show (-(n : Int)).toNat = 0 by omega, show (P 0).conj = G.mk 1 0 from rfl, G.mul_comm, G.one_mul]
/-- A sum of angles lies in the product's direction. -/
theorem Cone.sum {d1 d2 : Int} {a b : Int} {u v : G} (h1 : Cone d1 ((PZ a).mul u)) (h2 : Cone d2 ((PZ b).mul v)) (h0 : 0 ≤ d1 ∧ d1 ≤ 4722366482869645213696) (h0' : 0 ≤ d2 ∧ d2 ≤ 4722366482869645213696) :
    Cone (d1 + d2 + 274877906944) ((PZ (a + b)).mul (u.mul v)) := by
  obtain ⟨k, hk, e⟩ := PZ_add a b
  have c := h1.mul' h2 h0 h0'
  have e2 : ((PZ a).mul u).mul ((PZ b).mul v) = ((PZ (a + b)).mul (u.mul v)).by k := by
    rw [← G.by_mul, ← e]
    ac_rfl
  rw [e2] at c
  exact c.of_by hk
theorem Cone.negate {d a : Int} {u : G} (h : Cone d ((PZ a).mul u)) : Cone d ((PZ (-a)).mul u.conj) := by
  have := h.conj
  rwa [G.conj_mul, ← PZ_neg] at this
/-- Small turns. -/
theorem P_small : ∀ n : Nat, n ≤ 268435456 → 0 < (P n).re ∧ 0 ≤ (P n).im ∧ (n : Int) * (P n).re ≤ 536870912 * (P n).im ∧ 536870912 * (P n).im ≤ 2 * n * (P n).re
  | 0, _ => by decide
  | n + 1, h => by
    obtain ⟨h1, h2, h3, h4⟩ := P_small n (by omega)
    have e1 : (P (n + 1)).re = 536870912 * (P n).re - (P n).im := by
      show (P n).re * 536870912 - (P n).im * 1 = _
      omega
    have e2 : (P (n + 1)).im = 536870912 * (P n).im + (P n).re := by
      show (P n).re * 1 + (P n).im * 536870912 = _
      omega
    rw [e1, e2]
    generalize (P n).re = R at *
    generalize (P n).im = I at *
    have hIR : I ≤ R := by
      have : 2 * (n : Int) * R ≤ 536870912 * R := Int.mul_le_mul_of_nonneg_right (by omega) (Int.le_of_lt h1)
      omega
    have hnI : 0 ≤ (n : Int) * I := Int.mul_nonneg (by omega) h2
    have hnI2 : ((n : Int) + 1) * I ≤ 268435456 * I := Int.mul_le_mul_of_nonneg_right (by omega) h2
    have d1 : ((n + 1 : Nat) : Int) * (536870912 * R - I) = 536870912 * (n * R) + 536870912 * R - n * I - I := by
      rw [Int.natCast_add]; grind
    have d2 : 2 * ((n + 1 : Nat) : Int) * (536870912 * R - I) = 2 * (536870912 * (n * R) + 536870912 * R - n * I - I) := by rw [Int.mul_assoc, d1]
    have d3 : 2 * (n : Int) * R = 2 * (n * R) := Int.mul_assoc _ _ _
    have d4 : ((n : Int) + 1) * I = n * I + I := by rw [Int.add_mul]; omega
    rw [d1, d2]
    rw [d3] at h4
    rw [d4] at hnI2
    generalize (n : Int) * R = nR at *
    generalize (n : Int) * I = nI at *
    refine ⟨by omega, by omega, by omega, by omega⟩
/-- A turn that is nearly none is short. -/
theorem short_turn {d : Int} {n : Nat} (h : Cone d (P n)) (hn : n ≤ 268435456) : (n : Int) * DD ≤ 536870912 * d := by
  obtain ⟨h1, h2, h3, h4⟩ := P_small n hn
  obtain ⟨c1, c2, c3⟩ := h
  have hD : 0 < DD := DD_pos
  have s1 : DD * ((n : Int) * (P n).re) ≤ DD * (536870912 * (P n).im) := Int.mul_le_mul_of_nonneg_left h3 (Int.le_of_lt hD)
  have e1 : DD * ((n : Int) * (P n).re) = (n : Int) * DD * (P n).re := by grind
  have e2 : DD * (536870912 * (P n).im) = 536870912 * (DD * (P n).im) := Int.mul_left_comm _ _ _
  have e3 : 536870912 * (d * (P n).re) = 536870912 * d * (P n).re := (Int.mul_assoc _ _ _).symm
  rw [e1, e2] at s1
  have s2 : (n : Int) * DD * (P n).re ≤ 536870912 * d * (P n).re := by rw [← e3]; omega
  exact Int.le_of_mul_le_mul_right s2 h1
/-- The quarters' directions. -/
def chkAt (n : Nat) (v : G) : Bool := let r := ap 40 n; r.2.2 && coneB 1300000000000000000 (r.1.mul v.conj) && decide (r.2.1 ≤ 1000000000000)
theorem chkAt_spec {n : Nat} {v : G} (h : chkAt n v = true) : Cone 1400000000000000000 ((P n).mul v.conj) := by
  unfold chkAt at h
  simp only [Bool.and_eq_true, decide_eq_true_eq] at h
  obtain ⟨⟨h1, h2⟩, h3⟩ := h
  exact (P_near 1300000000000000000 h1 h2 (by decide) (by omega)).mono (by omega)
theorem at_right : Cone 1400000000000000000 ((PZ 843314857).mul (G.mk 0 1).conj) := by
  have h := chkAt_spec (n := 843314857) (v := ⟨0, 1⟩) (by decide +kernel)
  rwa [← PZ_nat] at h
theorem at_pi : Cone 1400000000000000000 ((PZ 1686629713).mul (G.mk (-1) 0).conj) := by
  have h := chkAt_spec (n := 1686629713) (v := ⟨-1, 0⟩) (by decide +kernel)
  rwa [← PZ_nat] at h
theorem at_2pi : Cone 1400000000000000000 ((PZ 3373259426).mul (G.mk 1 0).conj) := by
  have h := chkAt_spec (n := 3373259426) (v := ⟨1, 0⟩) (by decide +kernel)
  rwa [← PZ_nat] at h
/-- Half turns, of 1/2 each: sixteen bits of their directions. -/
def halfs : List G := [⟨57514, 31420⟩, ⟨35409, 55147⟩, ⟨4636, 65372⟩, ⟨-27273, 59592⟩, ⟨-52503, 39222⟩, ⟨-64880, 9248⟩]
def chkHalf (k : Nat) : Bool := let r := ap 40 ((k + 1) * 268435456); r.2.2 && coneB 100000000000000000000000 (r.1.mul (halfs.getD k ⟨1, 0⟩).conj) && decide (r.2.1 ≤ 1000000000000)
theorem chkHalf_all : ∀ k : Nat, k < 6 → chkHalf k = true := by decide +kernel
theorem half_near (k : Nat) (hk : k < 6) : Cone 100000001000000000000000 ((P ((k + 1) * 268435456)).mul (halfs.getD k ⟨1, 0⟩).conj) := by
  have h := chkHalf_all k hk
  unfold chkHalf at h
  simp only [Bool.and_eq_true, decide_eq_true_eq] at h
  obtain ⟨⟨h1, h2⟩, h3⟩ := h
  obtain ⟨s1, s2, s3⟩ := ap_spec 40 _ h1
  have c := s3.mul (d3 := 100000001000000000000000) (coneB_spec h2) (by unfold DD; omega) (by decide) (by
    generalize (ap 40 ((k + 1) * 268435456)).2.1 = e at *
    unfold DD
    omega)
  rw [G.re_mul_conj] at c
  exact c.of_by s2
theorem far_dir {a b R I d : Int} (hd : 0 ≤ d ∧ d ≤ 18889465931478580854784) (r1 : 0 < R) (r2 : 0 ≤ I) (ha : 0 < a) (hb : a ≤ 2 * b) (c3 : DD * (a * I + b * R) ≤ d * (a * R - b * I)) : False := by
  have e0 : 0 < a * R := Int.mul_pos ha r1
  have e1 : 0 ≤ a * I := Int.mul_nonneg (Int.le_of_lt ha) r2
  have e2 : 0 ≤ b * I := Int.mul_nonneg (by omega) r2
  have e3 : a * R ≤ 2 * (b * R) := by
    have := Int.mul_le_mul_of_nonneg_right hb (Int.le_of_lt r1)
    rwa [Int.mul_assoc] at this
  have e4 : d * (a * R - b * I) ≤ d * (a * R) := Int.mul_le_mul_of_nonneg_left (by omega) hd.1
  have e5 : d * (a * R) ≤ 18889465931478580854784 * (a * R) := Int.mul_le_mul_of_nonneg_right hd.2 (Int.le_of_lt e0)
  unfold DD at c3
  generalize a * R = x at *
  generalize a * I = y at *
  generalize b * I = z at *
  generalize b * R = t at *
  omega
theorem back_dir {a b R I : Int} (r1 : 0 < R) (r2 : 0 ≤ I) (ha : a < 0) (hb : 0 < b) (c1 : 0 < a * R - b * I) : False := by
  have e0 : a * R < 0 := Int.mul_neg_of_neg_of_pos ha r1
  have e2 : 0 ≤ b * I := Int.mul_nonneg (by omega) r2
  omega
/-- A turn between 1/2 and 7/2 is not nearly none. -/
theorem long_turn {d : Int} {n : Nat} (hd : 0 ≤ d ∧ d ≤ 18889465931478580854784) (h0 : 268435456 ≤ n) (h1 : n < 7 * 268435456) : ¬ Cone d (P n) := by
  intro hc
  obtain ⟨k, r, rfl, hk, hr⟩ : ∃ k r, n = (k + 1) * 268435456 + r ∧ k < 6 ∧ r ≤ 268435456 := ⟨n / 268435456 - 1, n % 268435456, by omega, by omega, by omega⟩
  have hn := half_near k hk
  obtain ⟨r1, r2, r3, r4⟩ := P_small r hr
  rw [P_add] at hc
  obtain ⟨n1, n2, n3⟩ := hn
  obtain ⟨c1, c2, c3⟩ := hc
  generalize P ((k + 1) * 268435456) = A at *
  generalize P r = B at *
  obtain ⟨a, b⟩ := A
  obtain ⟨R, I⟩ := B
  simp only [G.mul, G.conj] at n1 n2 n3 c1 c2 c3 r1 r2
  clear r3 r4 c2
  rcases (by omega : k = 0 ∨ k = 1 ∨ k = 2 ∨ k = 3 ∨ k = 4 ∨ k = 5) with rfl | rfl | rfl | rfl | rfl | rfl <;> simp only [halfs, List.getD_cons_zero, List.getD_cons_succ] at n1 n2 n3 <;> unfold DD at n2 n3
  · exact far_dir hd r1 r2 (by omega) (by omega) c3
  · exact far_dir hd r1 r2 (by omega) (by omega) c3
  · exact far_dir hd r1 r2 (by omega) (by omega) c3
  · exact back_dir r1 r2 (by omega) (by omega) c1
  · exact back_dir r1 r2 (by omega) (by omega) c1
  · exact back_dir r1 r2 (by omega) (by omega) c1
/-- A turn that is nearly none, of at most a half. -/
theorem near_none {d a : Int} (h : Cone d (PZ a)) (hd : 0 ≤ d ∧ d ≤ 18889465931478580854784) (ha : -1879048192 < a ∧ a < 1879048192) : -(536870912 * d) ≤ a * DD ∧ a * DD ≤ 536870912 * d := by
  have hD := DD_pos
  rcases Int.le_total 0 a with h0 | h0
  · obtain ⟨n, rfl⟩ := Int.eq_ofNat_of_zero_le h0
    rw [PZ_nat] at h
    have := short_turn h (Nat.le_of_not_lt fun hc => long_turn hd (by omega) (by omega) h)
    have : 0 ≤ (n : Int) * DD := Int.mul_nonneg h0 (by omega)
    omega
  · obtain ⟨n, hn⟩ := Int.eq_ofNat_of_zero_le (a := -a) (by omega)
    have h2 := h.conj
    rw [← PZ_neg, hn, PZ_nat] at h2
    have := short_turn h2 (Nat.le_of_not_lt fun hc => long_turn hd (by omega) (by omega) h2)
    have : 0 ≤ (n : Int) * DD := Int.mul_nonneg (by omega) (by omega)
    rw [show a = -(n : Int) by omega, Int.neg_mul]
    omega
/-- Words that are turned. -/
def sumN : Nat → Nat
  | 0 => 0
  | j + 1 => sumN j + tabN j
theorem sumN_le : ∀ j : Nat, j ≤ 28 → sumN j ≤ 936000000 := by decide +kernel
theorem tabN_is : ∀ i : Nat, i < 28 → (turnsL.getD i (kW 0)).v = tabN i ∧ (tabN i : Int) ≤ 421657428 := by decide +kernel
theorem tu_sum (x y : Int) : ∀ j, (tu x y j).p + (tu x y j).m = sumN j
  | 0 => rfl
  | j + 1 => by
    have := tu_sum x y j
    show (tuStep j (tu x y j)).p + (tuStep j (tu x y j)).m = sumN j + tabN j
    unfold tuStep
    split <;> simp only [] <;> omega
theorem tu_m (x y : Int) (j : Nat) : ∀ k, (tu x y j).m ≤ (tu x y (j + k)).m ∧ (tu x y j).p ≤ (tu x y (j + k)).p
  | 0 => ⟨Nat.le_refl _, Nat.le_refl _⟩
  | k + 1 => by
    have := tu_m x y j k
    show (tu x y j).m ≤ (tuStep (j + k) (tu x y (j + k))).m ∧ (tu x y j).p ≤ (tuStep (j + k) (tu x y (j + k))).p
    unfold tuStep
    split <;> simp only [] <;> omega
theorem sar_is (y : Wd) (i : Nat) (hi : i ≤ 28) : (sarW y (kW i)).v = y.v / 2 ^ i := by
  show y.v / 2 ^ sh (kW i).v = _
  have : ∀ i : Nat, i ≤ 28 → sh (kW i).v = i := by decide +kernel
  rw [this i hi]
theorem div_bd {x : Int} (j : Nat) : (0 ≤ x → 0 ≤ x / 2 ^ j ∧ x / 2 ^ j ≤ x) ∧ (x < 0 → x ≤ x / 2 ^ j ∧ x / 2 ^ j < 0) := by
  have hT : (0 : Int) < 2 ^ j := Int.pow_pos (by decide)
  obtain ⟨r, e, r0, r1⟩ := div_pow (x := x) j
  constructor
  · intro h
    exact ⟨Int.ediv_nonneg h (by omega), Int.ediv_le_self _ h⟩
  · intro h
    refine ⟨?_, Int.ediv_neg_of_neg_of_pos h hT⟩
    have h2 : x / 2 ^ j < 0 := Int.ediv_neg_of_neg_of_pos h hT
    have h3 : (2 ^ j - 1) * (x / 2 ^ j) ≤ (2 ^ j - 1) * (-1) := Int.mul_le_mul_of_nonneg_left (by omega) (by omega)
    rw [Int.sub_mul] at h3
    omega
theorem turn_rep {x y : Wd} (hx : 268435456 ≤ x.v ∧ x.v ≤ 536870912) (hy : 0 ≤ y.v ∧ y.v ≤ x.v) : ∀ k, k ≤ 28 →
    (turnW x y k).a.v = (tu x.v y.v k).x ∧ (turnW x y k).b.v = (tu x.v y.v k).y ∧ (turnW x y k).c.v = ((tu x.v y.v k).p : Int) - (tu x.v y.v k).m
  | 0, _ => ⟨rfl, rfl, by show (kW 0).v = _; rw [kW_v (by decide)]; rfl⟩
  | k + 1, h => by
    obtain ⟨e1, e2, e3⟩ := turn_rep hx hy k (by omega)
    have g := good_all hx hy k
    have g' := good_all hx hy (k + 1)
    have s := tu_sum x.v y.v k
    have s' := tu_sum x.v y.v (k + 1)
    have c1 := capX_28 k (by omega)
    have c2 := capX_28 (k + 1) h
    have n1 := sumN_le k (by omega)
    have n2 := sumN_le (k + 1) h
    obtain ⟨t1, t2⟩ := tabN_is k (by omega)
    obtain ⟨l, hi, lo1, hi1⟩ := g
    obtain ⟨l', hi', lo1', hi1'⟩ := g'
    have m1 := ((div_bd (x := (tu x.v y.v k).x) k).1 (by omega))
    have m2 := ((div_bd (x := (tu x.v y.v (k + 1)).x) (k + 1)).1 (by omega))
    have yb : -2147483648 < (tu x.v y.v (k + 1)).y ∧ (tu x.v y.v (k + 1)).y < 2147483647 := by
      have : (tu x.v y.v (k + 1)).x / 2 ^ (k + 1) ≤ 1006632960 := by
        have h2 : (2 : Int) ≤ 2 ^ (k + 1) := by
          rw [Int.pow_succ]
          have : (0 : Int) < 2 ^ k := Int.pow_pos (by decide)
          omega
        obtain ⟨r, er, r0, r1⟩ := div_pow (x := (tu x.v y.v (k + 1)).x) (k + 1)
        have q : 2 * ((tu x.v y.v (k + 1)).x / 2 ^ (k + 1)) ≤ 2 ^ (k + 1) * ((tu x.v y.v (k + 1)).x / 2 ^ (k + 1)) := Int.mul_le_mul_of_nonneg_right h2 m2.1
        omega
      omega
    have ey : (tu x.v y.v (k + 1)) = tuStep k (tu x.v y.v k) := rfl
    show (turnStep k (turnW x y k).a (turnW x y k).b (turnW x y k).c).a.v = _ ∧ (turnStep k (turnW x y k).a (turnW x y k).b (turnW x y k).c).b.v = _ ∧ (turnStep k (turnW x y k).a (turnW x y k).b (turnW x y k).c).c.v = _
    generalize turnW x y k = W at *
    obtain ⟨Wa, Wb, Wc⟩ := W
    simp only [] at e1 e2 e3
    unfold turnStep
    simp only []
    generalize tu x.v y.v k = T at *
    generalize tu x.v y.v (k + 1) = T' at *
    have okb := Wb.ok
    unfold In32 at okb
    unfold tuStep at ey
    by_cases hs : 0 ≤ T.y
    · rw [if_pos hs] at ey
      subst ey
      simp only [] at *
      rw [sign_pos (by omega), flip_none, flip_none, flip_none]
      have b1 := (div_bd (x := T.y) k).1 hs
      refine ⟨?_, ?_, ?_⟩
      · rw [add_is (by unfold In32; rw [sar_is _ _ (by omega), e1, e2]; omega), sar_is _ _ (by omega), e1, e2]
      · rw [sub_is (by unfold In32; rw [sar_is _ _ (by omega), e1, e2]; omega), sar_is _ _ (by omega), e1, e2]
      · rw [add_is (by unfold In32; rw [t1, e3]; omega), t1, e3]; omega
    · rw [if_neg hs] at ey
      subst ey
      simp only [] at *
      rw [sign_neg (by omega)]
      have b1 := (div_bd (x := T.y) k).2 (by omega)
      have f1 : (flipW (sarW Wb (kW k)) (kW (-1))).v = -(T.y / 2 ^ k) := by rw [flip_all (by rw [sar_is _ _ (by omega), e2]; omega), sar_is _ _ (by omega), e2]
      have f2 : (flipW (sarW Wa (kW k)) (kW (-1))).v = -(T.x / 2 ^ k) := by rw [flip_all (by rw [sar_is _ _ (by omega), e1]; omega), sar_is _ _ (by omega), e1]
      have f3 : (flipW (turnsL.getD k (kW 0)) (kW (-1))).v = -(tabN k : Int) := by rw [flip_all (by rw [t1]; omega), t1]
      refine ⟨?_, ?_, ?_⟩
      · rw [add_is (by unfold In32; rw [f1, e1]; omega), f1, e1]; omega
      · rw [sub_is (by unfold In32; rw [f2, e2]; omega), f2, e2]; omega
      · rw [add_is (by unfold In32; rw [f3, e3]; omega), f3, e3]; omega
end Go.Proofs.Ytbmfcedndbgpoaa
