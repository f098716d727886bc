/- Turning a place till it lies ahead, in whole numbers: what is left over, and the angle. -/
import Derived.Test.YtbmfcedndbgpoaaTurnP
namespace Go.Proofs.Ytbmfcedndbgpoaa
set_option linter.unusedVariables false
/-- A place, and what was turned by, back and forth. -/
structure Tu where
  x : Int
  y : Int
  p : Nat
  m : Nat
def tabN (j : Nat) : Nat := (tab.getD j 0).toNat
def tuStep (j : Nat) (s : Tu) : Tu :=
  if 0 ≤ s.y then ⟨s.x + s.y / 2 ^ j, s.y - s.x / 2 ^ j, s.p + tabN j, s.m⟩ else ⟨s.x - s.y / 2 ^ j, s.y + s.x / 2 ^ j, s.p, s.m + tabN j⟩
def tu (x y : Int) : Nat → Tu
  | 0 => ⟨x, y, 0, 0⟩
  | j + 1 => tuStep j (tu x y j)
/-- How large the first number may be. -/
def capX : Nat → Int
  | 0 => 536870912
  | 1 => 1073741824
  | j + 2 => capX (j + 1) + (2 * (capX (j + 1) / 2 ^ (j + 1)) + (j + 1 : Nat)) / 2 ^ (j + 1) + 1
theorem capX_28 : ∀ j : Nat, j ≤ 28 → capX j ≤ 2013265920 := by decide +kernel
theorem div_pow {x : Int} (j : Nat) : ∃ r : Int, x = 2 ^ j * (x / 2 ^ j) + r ∧ 0 ≤ r ∧ r < 2 ^ j := by
  have h : (0 : Int) < 2 ^ j := Int.pow_pos (by decide)
  exact ⟨x % 2 ^ j, (Int.mul_ediv_add_emod x (2 ^ j)).symm, Int.emod_nonneg _ (by omega), Int.emod_lt_of_pos _ h⟩
theorem half_div {x : Int} (j : Nat) : x / 2 ^ (j + 1) = x / 2 ^ j / 2 := by
  rw [Int.pow_succ, Int.ediv_ediv_of_nonneg (Int.le_of_lt (Int.pow_pos (by decide)))]
/-- The second number becomes small, the first one grows little. -/
structure Good (j : Nat) (s : Tu) : Prop where
  lo : 268435456 ≤ s.x
  hi : s.x ≤ capX j
  near : -(2 * (s.x / 2 ^ j) + j) ≤ s.y ∧ s.y ≤ 2 * (s.x / 2 ^ j) + j
theorem good_step {j : Nat} (hj : 1 ≤ j) {s : Tu} (h : Good j s) : Good (j + 1) (tuStep j s) := by
  obtain ⟨h1, h2, h3, h4⟩ := h
  have hT : (0 : Int) < 2 ^ j := Int.pow_pos (by decide)
  have hcap : capX (j + 1) = capX j + (2 * (capX j / 2 ^ j) + j) / 2 ^ j + 1 := by
    obtain ⟨i, rfl⟩ := Nat.exists_eq_add_of_le hj
    rw [Nat.add_comm 1 i]
    rfl
  have m1 : s.x / 2 ^ j ≤ capX j / 2 ^ j := Int.ediv_le_ediv hT h2
  have m0 : 0 ≤ s.x / 2 ^ j := Int.ediv_nonneg (by omega) (by omega)
  have m2 : (2 * (s.x / 2 ^ j) + j) / 2 ^ j ≤ (2 * (capX j / 2 ^ j) + j) / 2 ^ j := Int.ediv_le_ediv hT (by omega)
  unfold tuStep
  split
  · rename_i hy
    have q0 : 0 ≤ s.y / 2 ^ j := Int.ediv_nonneg hy (by omega)
    have q1 : s.y / 2 ^ j ≤ (2 * (s.x / 2 ^ j) + j) / 2 ^ j := Int.ediv_le_ediv hT h4
    have hx' : s.x / 2 ^ (j + 1) ≤ (s.x + s.y / 2 ^ j) / 2 ^ (j + 1) := Int.ediv_le_ediv (Int.pow_pos (by decide)) (by omega)
    rw [half_div] at hx'
    refine ⟨?_, ?_, ?_, ?_⟩
    · show 268435456 ≤ s.x + s.y / 2 ^ j; omega
    · show s.x + s.y / 2 ^ j ≤ capX (j + 1); omega
    · show -(2 * ((s.x + s.y / 2 ^ j) / 2 ^ (j + 1)) + ((j + 1 : Nat) : Int)) ≤ s.y - s.x / 2 ^ j; omega
    · show s.y - s.x / 2 ^ j ≤ 2 * ((s.x + s.y / 2 ^ j) / 2 ^ (j + 1)) + ((j + 1 : Nat) : Int); omega
  · rename_i hy
    have q0 : s.y / 2 ^ j < 0 := Int.ediv_neg_of_neg_of_pos (by omega) hT
    have q1 : -((2 * (s.x / 2 ^ j) + j) / 2 ^ j) - 1 ≤ s.y / 2 ^ j := by
      obtain ⟨r, e, r0, r1⟩ := div_pow (x := s.y) j
      obtain ⟨r', e', r0', r1'⟩ := div_pow (x := 2 * (s.x / 2 ^ j) + j) j
      refine Int.not_lt.1 (fun hc => ?_)
      have : 2 ^ j * (s.y / 2 ^ j) ≤ 2 ^ j * (-((2 * (s.x / 2 ^ j) + j) / 2 ^ j) - 2) := Int.mul_le_mul_of_nonneg_left (by omega) (by omega)
      rw [Int.mul_sub, Int.mul_neg] at this
      omega
    have hx' : s.x / 2 ^ (j + 1) ≤ (s.x - s.y / 2 ^ j) / 2 ^ (j + 1) := Int.ediv_le_ediv (Int.pow_pos (by decide)) (by omega)
    rw [half_div] at hx'
    refine ⟨?_, ?_, ?_, ?_⟩
    · show 268435456 ≤ s.x - s.y / 2 ^ j; omega
    · show s.x - s.y / 2 ^ j ≤ capX (j + 1); omega
    · show -(2 * ((s.x - s.y / 2 ^ j) / 2 ^ (j + 1)) + ((j + 1 : Nat) : Int)) ≤ s.y + s.x / 2 ^ j; omega
    · show s.y + s.x / 2 ^ j ≤ 2 * ((s.x - s.y / 2 ^ j) / 2 ^ (j + 1)) + ((j + 1 : Nat) : Int); omega
theorem good_all {x y : Int} (hx : 268435456 ≤ x ∧ x ≤ 536870912) (hy : 0 ≤ y ∧ y ≤ x) : ∀ j, Good j (tu x y j)
  | 0 => ⟨hx.1, hx.2, by show -(2 * (x / 1) + 0) ≤ y; omega, by show y ≤ 2 * (x / 1) + 0; omega⟩
  | 1 => by
    have e : tu x y 1 = ⟨x + y / 2 ^ 0, y - x / 2 ^ 0, 0 + tabN 0, 0⟩ := by
      show tuStep 0 ⟨x, y, 0, 0⟩ = _
      unfold tuStep
      rw [if_pos (show 0 ≤ y from hy.1)]
    rw [e]
    refine ⟨?_, ?_, ?_, ?_⟩
    · show 268435456 ≤ x + y / 2 ^ 0; omega
    · show x + y / 2 ^ 0 ≤ 1073741824; omega
    · show -(2 * ((x + y / 2 ^ 0) / 2 ^ 1) + ((1 : Nat) : Int)) ≤ y - x / 2 ^ 0; omega
    · show y - x / 2 ^ 0 ≤ 2 * ((x + y / 2 ^ 0) / 2 ^ 1) + ((1 : Nat) : Int); omega
  | j + 2 => good_step (by omega) (good_all hx hy (j + 1))
/-- One rounding turns little. -/
theorem round_near {T X Y X' Y' rx ry qr qi : Int} (hT : 0 < T) (hX : 268435456 ≤ X) (hqr : qr = T * X + Y) (hqi : qi = X - T * Y)
    (h1 : T * X' = T * X + Y - ry) (h2 : T * Y' = T * Y - X + rx) (hrx : -T ≤ rx ∧ rx ≤ T) (hry : -T ≤ ry ∧ ry ≤ T) :
    Cone 9300000000000000000 ⟨X' * qr - Y' * qi, X' * qi + Y' * qr⟩ := by
  -- the length of q
  have eN : qr * qr + qi * qi = (T * T + 1) * (X * X + Y * Y) := by subst hqr hqi; clear h1 h2 hrx hry hT hX; grind
  have eR : T * (X' * qr - Y' * qi) = (qr * qr + qi * qi) - (ry * qr + rx * qi) := by
    have : T * (X' * qr - Y' * qi) = (T * X') * qr - (T * Y') * qi := by clear eN h1 h2 hqr hqi; grind
    rw [this, h1, h2, hqr, hqi]
    clear this eN h1 h2
    grind
  have eI : T * (X' * qi + Y' * qr) = rx * qr - ry * qi := by
    have : T * (X' * qi + Y' * qr) = (T * X') * qi + (T * Y') * qr := by clear eN h1 h2 hqr hqi eR; grind
    rw [this, h1, h2, hqr, hqi]
    clear this eN h1 h2 eR
    grind
  obtain ⟨L, hL⟩ : ∃ L : Int, L = (qr.natAbs : Int) + qi.natAbs := ⟨_, rfl⟩
  have a1 := ab (A := qr) (B := ry) (b := T) (by omega)
  have a2 := ab (A := qi) (B := rx) (b := T) (by omega)
  have a3 := ab (A := qr) (B := rx) (b := T) (by omega)
  have a4 := ab (A := qi) (B := ry) (b := T) (by omega)
  have eL : (qr.natAbs : Int) * T + qi.natAbs * T = T * L := by rw [hL]; clear a1 a2 a3 a4 eR eI eN; grind
  have c1 : qr * ry = ry * qr := Int.mul_comm _ _
  have c2 : qi * rx = rx * qi := Int.mul_comm _ _
  have c3 : qr * rx = rx * qr := Int.mul_comm _ _
  have c4 : qi * ry = ry * qi := Int.mul_comm _ _
  have n1 : (qr.natAbs : Int) * qr.natAbs = qr * qr := Int.natAbs_mul_self
  have n2 : (qi.natAbs : Int) * qi.natAbs = qi * qi := Int.natAbs_mul_self
  have hL0 : 0 ≤ L := by omega
  -- L is long
  have hTX : 0 < T * X := Int.mul_pos hT (by omega)
  have hLT : T * X ≤ L := by
    refine Int.not_lt.1 (fun hc => ?_)
    have g : L * L < T * X * (T * X) := Int.mul_lt_mul' (Int.le_of_lt hc) hc hL0 hTX
    have gg : qr * qr + qi * qi ≤ L * L := by
      have : L * L = qr.natAbs * qr.natAbs + qi.natAbs * qi.natAbs + 2 * (qr.natAbs * qi.natAbs) := by rw [hL]; clear a1 a2 a3 a4 eR eI eN g; grind
      have p : (0 : Int) ≤ qr.natAbs * qi.natAbs := Int.mul_nonneg (by omega) (by omega)
      omega
    have e : (T * T + 1) * (X * X + Y * Y) = T * X * (T * X) + T * Y * (T * Y) + X * X + Y * Y := by clear a1 a2 a3 a4 eR eI eN g gg; grind
    have s1 := sq_nonneg (T * Y)
    have s2 := sq_nonneg X
    have s3 := sq_nonneg Y
    omega
  have hLL : L * L ≤ 2 * (qr * qr + qi * qi) := by
    have s := sq_nonneg ((qr.natAbs : Int) - qi.natAbs)
    have e : ((qr.natAbs : Int) - qi.natAbs) * ((qr.natAbs : Int) - qi.natAbs) + L * L = 2 * (qr.natAbs * qr.natAbs + qi.natAbs * qi.natAbs) := by rw [hL]; clear a1 a2 a3 a4 eR eI eN s; grind
    omega
  have hN : T * 268435456 * L ≤ 2 * (qr * qr + qi * qi) := by
    have g1 : T * 268435456 ≤ L := Int.le_trans (Int.mul_le_mul_of_nonneg_left hX (Int.le_of_lt hT)) hLT
    exact Int.le_trans (Int.mul_le_mul_of_nonneg_right g1 hL0) hLL
  have eT : T * 268435456 * L = 268435456 * (T * L) := by clear a1 a2 a3 a4 eR eI eN hN; grind
  rw [eT] at hN
  have hTL : 0 < T * L := Int.mul_pos hT (by omega)
  generalize qr * qr + qi * qi = N at *
  generalize hR : X' * qr - Y' * qi = R at *
  generalize hI : X' * qi + Y' * qr = I at *
  -- T R and T I
  have k1 : -(T * L) ≤ ry * qr + rx * qi ∧ ry * qr + rx * qi ≤ T * L := by omega
  have k2 : -(T * L) ≤ rx * qr - ry * qi ∧ rx * qr - ry * qi ≤ T * L := by omega
  have r0 : 0 < T * R := by omega
  have hRp : 0 < R := by
    refine Int.not_le.1 (fun hc => ?_)
    have := Int.mul_nonpos_of_nonneg_of_nonpos (Int.le_of_lt hT) hc
    omega
  refine ⟨hRp, ?_, ?_⟩
  · show -(9300000000000000000 * R) ≤ DD * I
    have : T * (-(9300000000000000000 * R)) ≤ T * (DD * I) := by
      have e1 : T * (-(9300000000000000000 * R)) = -(9300000000000000000 * (T * R)) := by clear a1 a2 a3 a4 eR eI eN hN k1 k2 r0; grind
      have e2 : T * (DD * I) = DD * (T * I) := Int.mul_left_comm _ _ _
      rw [e1, e2, eI, eR]
      unfold DD
      omega
    exact Int.le_of_mul_le_mul_left this hT
  · show DD * I ≤ 9300000000000000000 * R
    have : T * (DD * I) ≤ T * (9300000000000000000 * R) := by
      have e1 : T * (9300000000000000000 * R) = 9300000000000000000 * (T * R) := Int.mul_left_comm _ _ _
      have e2 : T * (DD * I) = DD * (T * I) := Int.mul_left_comm _ _ _
      rw [e1, e2, eI, eR]
      unfold DD
      omega
    exact Int.le_of_mul_le_mul_left this hT
theorem G.by_by (k l : Int) (a : G) : (a.by k).by l = a.by (l * k) := by apply G.ext_ <;> unfold G.by <;> simp only [] <;> rw [Int.mul_assoc]
theorem rearrange (V' K V A B C D : G) : (((V'.mul K).mul V.conj).mul (A.mul K.conj)).mul (((V.mul B).mul C).mul D) = (((V'.mul (B.mul A)).mul C).mul D).by (K.sq * V.sq) := by
  have e : (((V'.mul K).mul V.conj).mul (A.mul K.conj)).mul (((V.mul B).mul C).mul D) = (K.mul K.conj).mul ((V.mul V.conj).mul (((V'.mul (B.mul A)).mul C).mul D)) := by ac_rfl
  rw [e, G.mul_conj, G.mul_conj, G.real_mul, G.real_mul, G.by_by]
theorem rearrange2 (V' K V A B C D : G) : (((V'.mul K.conj).mul V.conj).mul (A.mul K)).mul (((V.mul B).mul C).mul D) = (((V'.mul B).mul (C.mul A)).mul D).by (K.sq * V.sq) := by
  have e : (((V'.mul K.conj).mul V.conj).mul (A.mul K)).mul (((V.mul B).mul C).mul D) = (K.mul K.conj).mul ((V.mul V.conj).mul (((V'.mul B).mul (C.mul A)).mul D)) := by ac_rfl
  rw [e, G.mul_conj, G.mul_conj, G.real_mul, G.real_mul, G.by_by]
/-- Turning back the place behind. -/
def back (s : Tu) (v0 : G) : G := (((G.mk s.x s.y).mul (P s.p)).mul (P s.m).conj).mul v0.conj
theorem sq_pos_of {a b : Int} (h : 0 < a) : 0 < (G.mk a b).sq := by
  have h1 : 0 < a * a := Int.mul_pos h h
  have h2 := sq_nonneg b
  show 0 < a * a + b * b
  omega
/-- How far off it may be behind each step. -/
def offI (j : Nat) : Int := j * 10700001000000000000
theorem back_step {j : Nat} (hj : j < 28) {s : Tu} {v0 : G} (hg : Good j s) (h : Cone (offI j) (back s v0)) : Cone (offI (j + 1)) (back (tuStep j s) v0) := by
  have hT : (0 : Int) < 2 ^ j := Int.pow_pos (by decide)
  have ht := tab_near j hj
  have ho : 0 ≤ offI j ∧ offI j ≤ 299600028000000000000 := by unfold offI; omega
  have ho1 : offI (j + 1) = offI j + 10700001000000000000 := by unfold offI; omega
  obtain ⟨ry, ey, ry0, ry1⟩ := div_pow (x := s.y) j
  obtain ⟨rx, ex, rx0, rx1⟩ := div_pow (x := s.x) j
  have hKT : 0 < (G.mk (2 ^ j) 1).sq := sq_pos_of hT
  have hv : 0 < (G.mk s.x s.y).sq := sq_pos_of (by have := hg.lo; omega)
  rw [ho1]
  unfold tuStep
  split
  · have c := round_near (T := 2 ^ j) (X := s.x) (Y := s.y) (X' := s.x + s.y / 2 ^ j) (Y' := s.y - s.x / 2 ^ j) (rx := rx) (ry := ry) (qr := 2 ^ j * s.x + s.y) (qi := s.x - 2 ^ j * s.y) hT hg.lo rfl rfl
      (by rw [Int.mul_add]; omega) (by rw [Int.mul_sub]; omega) (by omega) (by omega)
    have e1 : (G.mk ((s.x + s.y / 2 ^ j) * (2 ^ j * s.x + s.y) - (s.y - s.x / 2 ^ j) * (s.x - 2 ^ j * s.y)) ((s.x + s.y / 2 ^ j) * (s.x - 2 ^ j * s.y) + (s.y - s.x / 2 ^ j) * (2 ^ j * s.x + s.y))) = ((G.mk (s.x + s.y / 2 ^ j) (s.y - s.x / 2 ^ j)).mul (G.mk (2 ^ j) 1)).mul (G.mk s.x s.y).conj := by
      clear c h ht ex ey ry0 ry1 rx0 rx1 hv hKT hg
      generalize s.y / 2 ^ j = fy at *
      generalize s.x / 2 ^ j = fx at *
      generalize (2 : Int) ^ j = T at *
      apply G.ext_ <;> unfold G.mul G.conj <;> simp only [] <;> grind
    rw [e1] at c
    have c1 := (c.mul' ht (by decide) (by decide)).mul' h (by decide) (by omega)
    unfold back at c1 ⊢
    rw [rearrange, ← P_add] at c1
    exact (c1.of_by (Int.mul_pos hKT hv)).mono (by omega)
  · have c := round_near (T := 2 ^ j) (X := s.x) (Y := -s.y) (X' := s.x - s.y / 2 ^ j) (Y' := -(s.y + s.x / 2 ^ j)) (rx := rx) (ry := -ry) (qr := 2 ^ j * s.x - s.y) (qi := s.x + 2 ^ j * s.y) hT hg.lo (by omega) (by rw [Int.mul_neg]; omega)
      (by rw [Int.mul_sub]; omega) (by rw [Int.mul_neg, Int.mul_neg, Int.mul_add]; omega) (by omega) (by omega)
    have e1 : (G.mk ((s.x - s.y / 2 ^ j) * (2 ^ j * s.x - s.y) - -(s.y + s.x / 2 ^ j) * (s.x + 2 ^ j * s.y)) ((s.x - s.y / 2 ^ j) * (s.x + 2 ^ j * s.y) + -(s.y + s.x / 2 ^ j) * (2 ^ j * s.x - s.y))).conj = ((G.mk (s.x - s.y / 2 ^ j) (s.y + s.x / 2 ^ j)).mul (G.mk (2 ^ j) 1).conj).mul (G.mk s.x s.y).conj := by
      clear c h ht ex ey ry0 ry1 rx0 rx1 hv hKT hg
      generalize s.y / 2 ^ j = fy at *
      generalize s.x / 2 ^ j = fx at *
      generalize (2 : Int) ^ j = T at *
      apply G.ext_ <;> unfold G.mul G.conj <;> simp only [] <;> grind
    have c := c.conj
    rw [e1] at c
    have ht2 := ht.conj
    rw [G.conj_mul, G.conj_conj] at ht2
    have c1 := (c.mul' ht2 (by decide) (by decide)).mul' h (by decide) (by omega)
    unfold back at c1 ⊢
    rw [rearrange2, ← G.conj_mul, ← P_add] at c1
    exact (c1.of_by (Int.mul_pos hKT hv)).mono (by omega)
theorem back_all {x y : Int} (hx : 268435456 ≤ x ∧ x ≤ 536870912) (hy : 0 ≤ y ∧ y ≤ x) : ∀ j, j ≤ 28 → Cone (offI j) (back (tu x y j) ⟨x, y⟩)
  | 0 => fun _ => by
    have e : back (tu x y 0) ⟨x, y⟩ = ⟨(G.mk x y).sq, 0⟩ := by
      show (((G.mk x y).mul ⟨1, 0⟩).mul (G.mk 1 0).conj).mul (G.mk x y).conj = _
      rw [show (G.mk 1 0).conj = G.mk 1 0 from rfl, G.mul_comm (G.mk x y), G.one_mul, G.mul_comm (G.mk x y), G.one_mul, G.mul_conj]
    rw [e]
    have : 0 < (G.mk x y).sq := sq_pos_of (by omega)
    exact ⟨this, by show -(0 * _) ≤ DD * 0; simp, by show DD * 0 ≤ 0 * _; simp⟩
  | j + 1 => fun h => back_step (by omega) (good_all hx hy j) (back_all hx hy j (by omega))
/-- The angle's direction is the place's. -/
theorem turn_near {x y : Int} (hx : 268435456 ≤ x ∧ x ≤ 536870912) (hy : 0 ≤ y ∧ y ≤ x) :
    Cone 494000000000000000000 (((P (tu x y 28).p).mul (P (tu x y 28).m).conj).mul (G.mk x y).conj) := by
  have h := back_all hx hy 28 (by omega)
  have g := good_all hx hy 28
  obtain ⟨g1, g2, g3, g4⟩ := g
  have hc := capX_28 28 (by omega)
  rw [show (2 : Int) ^ 28 = 268435456 by decide] at g3 g4
  generalize tu x y 28 = s at *
  have hs : Cone 194000000000000000000 (G.mk s.x s.y).conj := by
    refine ⟨by show 0 < s.x; omega, ?_, ?_⟩
    · show -(194000000000000000000 * s.x) ≤ DD * -s.y
      unfold DD; omega
    · show DD * -s.y ≤ 194000000000000000000 * s.x
      unfold DD; omega
  have c := h.mul' hs (by decide) (by decide)
  have e : (back s ⟨x, y⟩).mul (G.mk s.x s.y).conj = (((P s.p).mul (P s.m).conj).mul (G.mk x y).conj).by (G.mk s.x s.y).sq := by
    unfold back
    rw [← G.real_mul, ← G.mul_conj]
    ac_rfl
  rw [e] at c
  exact (c.of_by (sq_pos_of (by omega))).mono (by decide)
end Go.Proofs.Ytbmfcedndbgpoaa
