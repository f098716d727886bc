/- Directions: a turn by n parts of 2^-29, as a power of 2^29 + i, in whole numbers. -/
import Derived.Test.YtbmfcedndbgpoaaUnitLaw
namespace Go.Proofs.Ytbmfcedndbgpoaa
set_option linter.unusedVariables false
/-- A number of two parts. -/
structure G where
  re : Int
  im : Int
theorem G.ext_ {a b : G} (h : a.re = b.re) (h' : a.im = b.im) : a = b := by cases a; cases b; cases h; cases h'; rfl
def G.mul (a b : G) : G := ⟨a.re * b.re - a.im * b.im, a.re * b.im + a.im * b.re⟩
def G.conj (a : G) : G := ⟨a.re, -a.im⟩
/-- The square of its length. -/
def G.sq (a : G) : Int := a.re * a.re + a.im * a.im
def G.by (k : Int) (a : G) : G := ⟨k * a.re, k * a.im⟩
theorem G.mul_comm (a b : G) : a.mul b = b.mul a := by apply G.ext_ <;> unfold G.mul <;> grind
theorem G.mul_assoc (a b c : G) : (a.mul b).mul c = a.mul (b.mul c) := by apply G.ext_ <;> unfold G.mul <;> grind
instance : Std.Associative G.mul := ⟨G.mul_assoc⟩
instance : Std.Commutative G.mul := ⟨G.mul_comm⟩
theorem G.conj_mul (a b : G) : (a.mul b).conj = a.conj.mul b.conj := by apply G.ext_ <;> unfold G.mul G.conj <;> grind
theorem G.conj_conj (a : G) : a.conj.conj = a := by apply G.ext_ <;> unfold G.conj <;> simp
theorem G.mul_conj (a : G) : a.mul a.conj = ⟨a.sq, 0⟩ := by apply G.ext_ <;> unfold G.mul G.conj G.sq <;> grind
theorem G.by_mul (k : Int) (a b : G) : (a.by k).mul b = (a.mul b).by k := by apply G.ext_ <;> unfold G.mul G.by <;> grind
theorem G.real_mul (k : Int) (b : G) : (G.mk k 0).mul b = b.by k := by apply G.ext_ <;> unfold G.mul G.by <;> grind
theorem G.one_mul (b : G) : (G.mk 1 0).mul b = b := by apply G.ext_ <;> unfold G.mul <;> grind
theorem G.sq_nonneg (a : G) : 0 ≤ a.sq := Int.add_nonneg (Proofs.Ytbmfcedndbgpoaa.sq_nonneg _) (Proofs.Ytbmfcedndbgpoaa.sq_nonneg _)
/-- What a direction is measured by: 2^90. -/
def DD : Int := 1237940039285380274899124224
theorem DD_pos : 0 < DD := by decide
/-- The direction is that of 1, but for d by 2^90. -/
def Cone (d : Int) (z : G) : Prop := 0 < z.re ∧ -(d * z.re) ≤ DD * z.im ∧ DD * z.im ≤ d * z.re
theorem Cone.conj {d : Int} {z : G} (h : Cone d z) : Cone d z.conj := by
  obtain ⟨h1, h2, h3⟩ := h
  refine ⟨h1, ?_, ?_⟩
  · show -(d * z.re) ≤ DD * -z.im
    rw [Int.mul_neg]; omega
  · show DD * -z.im ≤ d * z.re
    rw [Int.mul_neg]; omega
theorem Cone.mono {d e : Int} {z : G} (h : Cone d z) (hd : d ≤ e) : Cone e z := by
  obtain ⟨h1, h2, h3⟩ := h
  have := Int.mul_le_mul_of_nonneg_right hd (Int.le_of_lt h1)
  exact ⟨h1, by omega, by omega⟩
theorem Cone.of_by {d k : Int} {z : G} (hk : 0 < k) (h : Cone d (z.by k)) : Cone d z := by
  obtain ⟨h1, h2, h3⟩ := h
  have g1 : 0 < k * z.re := h1
  have g2 : -(d * (k * z.re)) ≤ DD * (k * z.im) := h2
  have g3 : DD * (k * z.im) ≤ d * (k * z.re) := h3
  have r : 0 < z.re := by
    refine Int.not_le.1 (fun hc => ?_)
    have := Int.mul_nonpos_of_nonneg_of_nonpos (Int.le_of_lt hk) hc
    omega
  have e1 : d * (k * z.re) = k * (d * z.re) := Int.mul_left_comm _ _ _
  have e2 : DD * (k * z.im) = k * (DD * z.im) := Int.mul_left_comm _ _ _
  rw [e1, e2] at g2 g3
  refine ⟨r, ?_, Int.le_of_mul_le_mul_left g3 hk⟩
  rw [← Int.mul_neg] at g2
  exact Int.le_of_mul_le_mul_left g2 hk
theorem Cone.to_by {d k : Int} {z : G} (hk : 0 < k) (h : Cone d z) : Cone d (z.by k) := by
  obtain ⟨h1, h2, h3⟩ := h
  have e1 : d * (k * z.re) = k * (d * z.re) := Int.mul_left_comm _ _ _
  have e2 : DD * (k * z.im) = k * (DD * z.im) := Int.mul_left_comm _ _ _
  refine ⟨Int.mul_pos hk h1, ?_, ?_⟩
  · show -(d * (k * z.re)) ≤ DD * (k * z.im)
    rw [e1, e2, ← Int.mul_neg]
    exact Int.mul_le_mul_of_nonneg_left h2 (Int.le_of_lt hk)
  · show DD * (k * z.im) ≤ d * (k * z.re)
    rw [e1, e2]
    exact Int.mul_le_mul_of_nonneg_left h3 (Int.le_of_lt hk)
/-- Two directions together. -/
theorem Cone.mul {d1 d2 d3 : Int} {z1 z2 : G} (h1 : Cone d1 z1) (h2 : Cone d2 z2) (hd : d1 * d2 < DD * DD) (hd3 : 0 ≤ d3) (h : (d1 + d2) * (DD * DD) ≤ d3 * (DD * DD - d1 * d2)) : Cone d3 (z1.mul z2) := by
  obtain ⟨a1, a2, a3⟩ := h1
  obtain ⟨b1, b2, b3⟩ := h2
  obtain ⟨R1, I1⟩ := z1
  obtain ⟨R2, I2⟩ := z2
  simp only at a1 a2 a3 b1 b2 b3
  have hA : 0 < R1 * R2 := Int.mul_pos a1 b1
  have hI := mul_bd (a := DD * I1) (b := DD * I2) (A := d1 * R1) (B := d2 * R2) ⟨a2, a3⟩ ⟨b2, b3⟩
  have e1 : DD * I1 * (DD * I2) = DD * DD * (I1 * I2) := by grind
  have e2 : d1 * R1 * (d2 * R2) = d1 * d2 * (R1 * R2) := by grind
  rw [e1, e2] at hI
  have hDD : 0 < DD * DD := by decide
  -- the real part
  have hre : (DD * DD - d1 * d2) * (R1 * R2) ≤ DD * DD * (R1 * R2 - I1 * I2) := by
    rw [Int.sub_mul, Int.mul_sub]; omega
  have hpos : 0 < R1 * R2 - I1 * I2 := by
    have q : 0 < (DD * DD - d1 * d2) * (R1 * R2) := Int.mul_pos (by omega) hA
    refine Int.not_le.1 (fun hc => ?_)
    have := Int.mul_nonpos_of_nonneg_of_nonpos (Int.le_of_lt hDD) hc
    omega
  -- the other part
  have p1 := mul_bd (a := R1) (b := DD * I2) (A := R1) (B := d2 * R2) (by omega) ⟨b2, b3⟩
  have p2 := mul_bd (a := R2) (b := DD * I1) (A := R2) (B := d1 * R1) (by omega) ⟨a2, a3⟩
  have f1 : R1 * (DD * I2) = DD * (R1 * I2) := by grind
  have f2 : R2 * (DD * I1) = DD * (I1 * R2) := by grind
  have f3 : R1 * (d2 * R2) = d2 * (R1 * R2) := by grind
  have f4 : R2 * (d1 * R1) = d1 * (R1 * R2) := by grind
  rw [f1, f3] at p1
  rw [f2, f4] at p2
  have him : -((d1 + d2) * (R1 * R2)) ≤ DD * (R1 * I2 + I1 * R2) ∧ DD * (R1 * I2 + I1 * R2) ≤ (d1 + d2) * (R1 * R2) := by
    rw [Int.mul_add, Int.add_mul]; omega
  have hk : (d1 + d2) * (DD * DD) * (R1 * R2) ≤ d3 * (DD * DD - d1 * d2) * (R1 * R2) := Int.mul_le_mul_of_nonneg_right h (Int.le_of_lt hA)
  have hl : d3 * ((DD * DD - d1 * d2) * (R1 * R2)) ≤ d3 * (DD * DD * (R1 * R2 - I1 * I2)) := Int.mul_le_mul_of_nonneg_left hre hd3
  have hm : (d1 + d2) * (R1 * R2) ≤ d3 * (R1 * R2 - I1 * I2) := by
    have g1 : (d1 + d2) * (DD * DD) * (R1 * R2) = DD * DD * ((d1 + d2) * (R1 * R2)) := by grind
    have g2 : d3 * (DD * DD * (R1 * R2 - I1 * I2)) = DD * DD * (d3 * (R1 * R2 - I1 * I2)) := by grind
    rw [g1, Int.mul_assoc d3] at hk
    rw [g2] at hl
    exact Int.le_of_mul_le_mul_left (Int.le_trans hk hl) hDD
  show Cone d3 ⟨R1 * R2 - I1 * I2, R1 * I2 + I1 * R2⟩
  exact ⟨hpos, by show -(d3 * (R1 * R2 - I1 * I2)) ≤ DD * (R1 * I2 + I1 * R2); omega, by show DD * (R1 * I2 + I1 * R2) ≤ d3 * (R1 * R2 - I1 * I2); omega⟩
/-- Small ones together. -/
theorem Cone.mul' {d1 d2 : Int} {z1 z2 : G} (h1 : Cone d1 z1) (h2 : Cone d2 z2) (h0 : 0 ≤ d1 ∧ d1 ≤ 4722366482869645213696) (h0' : 0 ≤ d2 ∧ d2 ≤ 4722366482869645213696) : Cone (d1 + d2 + 274877906944) (z1.mul z2) := by
  have q : d1 * d2 ≤ 4722366482869645213696 * 4722366482869645213696 := Int.mul_le_mul h0.2 h0'.2 h0'.1 (by decide)
  have q0 : 0 ≤ d1 * d2 := Int.mul_nonneg h0.1 h0'.1
  refine h1.mul h2 ?_ (by omega) ?_
  · refine Int.lt_of_le_of_lt q (by decide)
  · have p : (d1 + d2 + 274877906944) * (d1 * d2) ≤ (4722366482869645213696 + 4722366482869645213696 + 274877906944) * (4722366482869645213696 * 4722366482869645213696) := Int.mul_le_mul (by omega) q q0 (by decide)
    have e : (d1 + d2 + 274877906944) * (DD * DD - d1 * d2) = (d1 + d2) * (DD * DD) + 274877906944 * (DD * DD) - (d1 + d2 + 274877906944) * (d1 * d2) := by grind
    rw [e]
    have hb : (4722366482869645213696 + 4722366482869645213696 + 274877906944) * (4722366482869645213696 * 4722366482869645213696) ≤ 274877906944 * (DD * DD) := by decide
    omega
/-- The n-th power. -/
def P : Nat → G
  | 0 => ⟨1, 0⟩
  | n + 1 => (P n).mul ⟨536870912, 1⟩
theorem P_add (a b : Nat) : P (a + b) = (P a).mul (P b) := by
  induction b with
  | zero => rw [Nat.add_zero, G.mul_comm]; exact (G.one_mul _).symm
  | succ b ih => show (P (a + b)).mul _ = (P a).mul ((P b).mul _); rw [ih, G.mul_assoc]
theorem P_sq_pos (n : Nat) : 0 < (P n).sq := by
  induction n with
  | zero => decide
  | succ n ih =>
    have e : (P (n + 1)).sq = 288230376151711745 * (P n).sq := by
      show ((P n).mul ⟨536870912, 1⟩).sq = _
      unfold G.sq G.mul
      grind
    rw [e]
    exact Int.mul_pos (by decide) ih
/-- A power's direction, reckoned. -/
def apSq (z : G) : G := let w := z.mul z; ⟨w.re / DD, w.im / DD⟩
def apOne (z : G) : G := let w := z.mul ⟨536870912, 1⟩; ⟨w.re / 536870912, w.im / 536870912⟩
def coneB (d : Int) (z : G) : Bool := decide (0 < z.re) && decide (-(d * z.re) ≤ DD * z.im) && decide (DD * z.im ≤ d * z.re)
theorem coneB_spec {d : Int} {z : G} (h : coneB d z = true) : Cone d z := by
  unfold coneB at h
  simp only [Bool.and_eq_true, decide_eq_true_eq] at h
  exact ⟨h.1.1, h.1.2, h.2⟩
/-- The reckoned direction, how far off it may be, and whether all steps were near. -/
def ap : Nat → Nat → G × Int × Bool
  | 0, n => (⟨DD, 0⟩, 0, n == 0)
  | f + 1, n =>
    if n = 0 then (⟨DD, 0⟩, 0, true) else
      let (z, e, b) := ap f (n / 2)
      let w := apSq z
      let b1 := b && coneB 8 ((z.mul z).mul w.conj) && decide (0 < w.sq) && decide (e ≤ 144115188075855872)
      let e1 := 2 * e + 16
      if n % 2 = 0 then (w, e1, b1) else
        let v := apOne w
        (v, e1 + 16, b1 && coneB 8 ((w.mul ⟨536870912, 1⟩).mul v.conj) && decide (0 < v.sq))
theorem Cone.mul_small {d1 d2 : Int} {z1 z2 : G} (h1 : Cone d1 z1) (h2 : Cone d2 z2) (h0 : 0 ≤ d1 ∧ d1 ≤ 576460752303423488) (h0' : 0 ≤ d2 ∧ d2 ≤ 576460752303423488) : Cone (d1 + d2 + 1) (z1.mul z2) := by
  have q : d1 * d2 ≤ 576460752303423488 * 576460752303423488 := Int.mul_le_mul h0.2 h0'.2 h0'.1 (by decide)
  have q0 : 0 ≤ d1 * d2 := Int.mul_nonneg h0.1 h0'.1
  refine h1.mul h2 ?_ (by omega) ?_
  · refine Int.lt_of_le_of_lt q (by decide)
  · have p : (d1 + d2 + 1) * (d1 * d2) ≤ (576460752303423488 + 576460752303423488 + 1) * (576460752303423488 * 576460752303423488) := Int.mul_le_mul (by omega) q q0 (by decide)
    have e : (d1 + d2 + 1) * (DD * DD - d1 * d2) = (d1 + d2) * (DD * DD) + DD * DD - (d1 + d2 + 1) * (d1 * d2) := by grind
    rw [e]
    have hb : (576460752303423488 + 576460752303423488 + 1) * (576460752303423488 * 576460752303423488) ≤ 1 * (DD * DD) := by decide
    omega
theorem G.re_mul_conj (p z w : G) : ((p.mul z.conj).mul (z.mul w.conj)) = (p.mul w.conj).by z.sq := by
  rw [G.mul_assoc, ← G.mul_assoc z.conj, G.mul_comm z.conj z, G.mul_conj, G.real_mul, G.mul_comm p, G.by_mul, G.mul_comm _ p]
theorem ap_spec : ∀ (f n : Nat), (ap f n).2.2 = true → 0 ≤ (ap f n).2.1 ∧ 0 < (ap f n).1.sq ∧ Cone (ap f n).2.1 ((P n).mul (ap f n).1.conj)
  | 0, n => by
    intro h
    have hn : n = 0 := by simpa [ap] using h
    subst hn
    exact ⟨by decide, by decide, coneB_spec (by decide +kernel)⟩
  | f + 1, n => by
    intro h
    by_cases h0 : n = 0
    · subst h0
      exact ⟨by simp [ap], by simp [ap]; decide, by simp [ap]; exact coneB_spec (by decide +kernel)⟩
    · have ih := ap_spec f (n / 2)
      unfold ap at h ⊢
      rw [if_neg h0] at h ⊢
      rcases hz : ap f (n / 2) with ⟨z, e, b⟩
      rw [hz] at h ih
      simp only at h ih ⊢
      have key : (b && coneB 8 ((z.mul z).mul (apSq z).conj) && decide (0 < (apSq z).sq) && decide (e ≤ 144115188075855872)) = true → 0 ≤ 2 * e + 16 ∧ 2 * e + 16 ≤ 576460752303423472 ∧ 0 < (apSq z).sq ∧ Cone (2 * e + 16) ((P (n / 2 + n / 2)).mul (apSq z).conj) := by
        intro hb
        simp only [Bool.and_eq_true, decide_eq_true_eq] at hb
        obtain ⟨⟨⟨hb1, hb2⟩, hb3⟩, hb4⟩ := hb
        obtain ⟨i0, i1, i2⟩ := ih hb1
        refine ⟨by omega, by omega, hb3, ?_⟩
        have c1 := i2.mul_small i2 ⟨i0, by omega⟩ ⟨i0, by omega⟩
        have c2 := (coneB_spec hb2).mul_small c1 (by decide) (by omega)
        have e1 : ((z.mul z).mul (apSq z).conj).mul (((P (n / 2)).mul z.conj).mul ((P (n / 2)).mul z.conj)) = ((P (n / 2 + n / 2)).mul (apSq z).conj).by (z.mul z).sq := by
          rw [P_add, ← G.re_mul_conj, G.conj_mul, G.mul_comm ((z.mul z).mul (apSq z).conj)]
          congr 1
          rw [G.mul_assoc, G.mul_assoc]
          congr 1
          rw [← G.mul_assoc, ← G.mul_assoc, G.mul_comm z.conj]
        rw [e1] at c2
        have hpos : 0 < (z.mul z).sq := by
          have : (z.mul z).sq = z.sq * z.sq := by unfold G.sq G.mul; grind
          rw [this]; exact Int.mul_pos i1 i1
        exact (c2.of_by hpos).mono (by omega)
      by_cases h2 : n % 2 = 0
      · rw [if_pos h2] at h ⊢
        obtain ⟨k1, k2, k3, k4⟩ := key h
        have hn : n / 2 + n / 2 = n := by omega
        rw [hn] at k4
        exact ⟨k1, k3, k4⟩
      · rw [if_neg h2] at h ⊢
        simp only [Bool.and_eq_true] at h
        obtain ⟨⟨h3, h4⟩, h5⟩ := h
        obtain ⟨k1, k2, k3, k4⟩ := key (by simpa only [Bool.and_eq_true] using h3)
        have hn : n = n / 2 + n / 2 + 1 := by omega
        refine ⟨by show 0 ≤ 2 * e + 16 + 16; omega, of_decide_eq_true h5, ?_⟩
        show Cone (2 * e + 16 + 16) ((P n).mul (apOne (apSq z)).conj)
        have c := (coneB_spec h4).mul_small k4 (by decide) (by omega)
        have e1 : (((apSq z).mul ⟨536870912, 1⟩).mul (apOne (apSq z)).conj).mul ((P (n / 2 + n / 2)).mul (apSq z).conj) = ((P n).mul (apOne (apSq z)).conj).by (apSq z).sq := by
          have : P n = (P (n / 2 + n / 2)).mul ⟨536870912, 1⟩ := by
            have e : P n = P (n / 2 + n / 2 + 1) := congrArg P hn
            exact e
          rw [this, ← G.real_mul, ← G.mul_conj]
          ac_rfl
        rw [e1] at c
        exact (c.of_by k3).mono (by omega)
/-- A power's direction is near to a given one. -/
theorem P_near {n : Nat} {v : G} (d : Int) (h : (ap 40 n).2.2 = true) (h2 : coneB d ((ap 40 n).1.mul v.conj) = true) (hd : 0 ≤ d ∧ d ≤ 4722366482869645213696) (he : (ap 40 n).2.1 ≤ 4722366482869645213696) :
    Cone ((ap 40 n).2.1 + d + 274877906944) ((P n).mul v.conj) := by
  obtain ⟨h1, h3, h4⟩ := ap_spec 40 n h
  have c := h4.mul' (coneB_spec h2) ⟨h1, he⟩ hd
  rw [G.re_mul_conj] at c
  exact c.of_by h3
/-- The table of turns. -/
def tab : List Int := [421657428, 248918915, 131521918, 66762579, 33510843, 16771758, 8387925, 4194219, 2097141, 1048575, 524288, 262144, 131072, 65536, 32768, 16384, 8192, 4096, 2048, 1024, 512, 256, 128, 64, 32, 16, 8, 4]
/-- One part of 2^-29, and a little. -/
def chkTab (j : Nat) : Bool := let n := (tab.getD j 0).toNat; let r := ap 40 n; r.2.2 && coneB 1300000000000000000 (r.1.mul (G.mk (2 ^ j) 1).conj) && decide (r.2.1 ≤ 1000000000000)
theorem chkTab_all : ∀ j : Nat, j < 28 → chkTab j = true := by decide +kernel
theorem tab_near (j : Nat) (hj : j < 28) : Cone 1400000000000000000 ((P (tab.getD j 0).toNat).mul (G.mk (2 ^ j) 1).conj) := by
  have h := chkTab_all j hj
  unfold chkTab at h
  simp only [Bool.and_eq_true, decide_eq_true_eq] at h
  obtain ⟨⟨h1, h2⟩, h3⟩ := h
  exact (P_near 1300000000000000000 h1 h2 (by decide) (by omega)).mono (by omega)
end Go.Proofs.Ytbmfcedndbgpoaa
