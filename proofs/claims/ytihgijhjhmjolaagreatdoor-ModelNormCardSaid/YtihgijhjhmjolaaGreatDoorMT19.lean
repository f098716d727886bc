/- Texts of this claim, side by side: Newton, RootLaw, RootLaw2, RootLaw3, RootLaw4, UnitDef, Is. -/
import Derived.Test.YtihgijhjhmjolaaGreatDoorMT3
import Derived.Test.YtihgijhjhmjolaaGreatDoorWorks7
import Derived.Test.YtihgijhjhmjolaaGreatDoorMT4
/- Newton's step for 1 by a root, in whole numbers. N = 2^30. -/
namespace Go.Proofs.YtihgijhjhmjolaaGreatDoor
set_option linter.unusedVariables false
theorem sq_nonneg (x : Int) : 0 ≤ x * x := by
  rcases Int.le_total 0 x with h | h
  · exact Int.mul_nonneg h h
  · exact Int.mul_nonneg_of_nonpos_of_nonpos h h
theorem mul_bd {a b A B : Int} (ha : -A ≤ a ∧ a ≤ A) (hb : -B ≤ b ∧ b ≤ B) : -(A * B) ≤ a * b ∧ a * b ≤ A * B := by
  have h : (a * b).natAbs ≤ A.natAbs * B.natAbs := by
    rw [Int.natAbs_mul]
    exact Nat.mul_le_mul (by omega) (by omega)
  have hA : (A.natAbs : Int) = A := by omega
  have hB : (B.natAbs : Int) = B := by omega
  have h2 : ((a * b).natAbs : Int) ≤ A * B := by
    have : ((a * b).natAbs : Int) ≤ ((A.natAbs * B.natAbs : Nat) : Int) := by exact_mod_cast h
    rw [Int.natCast_mul, hA, hB] at this
    exact this
  omega
/-- One step: D tells how far 4uy² is from N³. -/
theorem newton {u y yy w e ye hf z D N : Int} (hN : N = 1073741824)
    (hu : 0 ≤ u ∧ u ≤ N) (hy : 0 ≤ y ∧ 5 * y ≤ 6 * N)
    (h1 : -N ≤ 2 * (N * yy - y * y) ∧ 2 * (N * yy - y * y) ≤ N)
    (h2 : -N ≤ 2 * (N * w - u * yy) ∧ 2 * (N * w - u * yy) ≤ N)
    (h3 : e = N - 4 * w)
    (h4 : -N ≤ 2 * (N * ye - y * e) ∧ 2 * (N * ye - y * e) ≤ N)
    (h5 : 2 * hf ≤ ye ∧ ye ≤ 2 * hf + 1) (h6 : z = y + hf)
    (hD : D = 4 * (u * (y * y)) - N * N * N) :
    ∃ F : Int, 2 * (N * N * N) * z = y * (2 * (N * N * N) - D) + F ∧ -(7 * (N * N * N)) ≤ F ∧ F ≤ 7 * (N * N * N) := by
  obtain ⟨r1, hr1⟩ : ∃ r, r = N * yy - y * y := ⟨_, rfl⟩
  obtain ⟨r2, hr2⟩ : ∃ r, r = N * w - u * yy := ⟨_, rfl⟩
  obtain ⟨r3, hr3⟩ : ∃ r, r = N * ye - y * e := ⟨_, rfl⟩
  obtain ⟨b, hb⟩ : ∃ b, b = ye - 2 * hf := ⟨_, rfl⟩
  rw [← hr1] at h1
  rw [← hr2] at h2
  rw [← hr3] at h4
  refine ⟨y * (-(4 * (u * r1 + N * r2))) + N * N * r3 - N * N * N * b, ?_, ?_, ?_⟩
  · grind
  all_goals
    have q1 := mul_bd (a := u) (b := 2 * r1) (A := N) (B := N) (by omega) (by omega)
    have e1 : u * (2 * r1) = 2 * (u * r1) := by grind
    rw [e1] at q1
    have q2 := mul_bd (a := y) (b := 4 * (u * r1 + N * r2)) (A := 1288490189) (B := 4 * (N * N)) (by omega) (by subst hN; omega)
    have e2 : y * (-(4 * (u * r1 + N * r2))) = -(y * (4 * (u * r1 + N * r2))) := by grind
    rw [e2]
    have hb01 : 0 ≤ b ∧ b ≤ 1 := by omega
    clear e1 e2 hr1 hr2 hr3 hD h3 h6
    generalize y * (4 * (u * r1 + N * r2)) = P at *
    subst hN
    omega
/-- What the step leaves. -/
theorem newton_D {u y z D D' F N : Int} (hN : N = 1073741824) (hu : 0 ≤ u ∧ u ≤ N) (hy : 0 ≤ y ∧ 5 * y ≤ 6 * N) (hD : D = 4 * (u * (y * y)) - N * N * N) (hD' : D' = 4 * (u * (z * z)) - N * N * N)
    (hF : 2 * (N * N * N) * z = y * (2 * (N * N * N) - D) + F) (hF1 : -(7 * (N * N * N)) ≤ F) (hF2 : F ≤ 7 * (N * N * N)) (hb : -(2 * (N * N * N)) ≤ 5 * D ∧ 5 * D ≤ 2 * (N * N * N)) :
    ∃ G : Int, 4 * (N * N * N) * (N * N * N) * D' = -(3 * (N * N * N) * (D * D)) + D * D * D + G ∧ -(168 * (N * N * N) * (N * N * N) * (N * N)) ≤ G ∧ G ≤ 168 * (N * N * N) * (N * N * N) * (N * N) := by
  obtain ⟨A, hA⟩ : ∃ A, A = y * (2 * (N * N * N) - D) := ⟨_, rfl⟩
  refine ⟨4 * (u * F * (2 * A + F)), ?_, ?_⟩
  · have h4 : u * (y * y) * 4 = D + N * N * N := by omega
    have h5 : (2 * (N * N * N) * z) * (2 * (N * N * N) * z) = (A + F) * (A + F) := by rw [hF, ← hA]
    grind
  · have q1 := mul_bd (a := u) (b := F) (A := N) (B := 7 * (N * N * N)) (by omega) ⟨hF1, hF2⟩
    have q2 := mul_bd (a := y) (b := 2 * (N * N * N) - D) (A := 1288490189) (B := 2576980378 * (N * N)) (by omega) (by subst hN; omega)
    rw [← hA] at q2
    have q3 := mul_bd (a := u * F) (b := 2 * A + F) (A := N * (7 * (N * N * N))) (B := 6 * (N * N * N) * N) q1 (by subst hN; omega)
    generalize u * F * (2 * A + F) = P at *
    subst hN
    omega
/-- The bound behind a step. -/
theorem step_bd {D D' G d d' M Q : Int} (hM : M = 1237940039285380274899124224) (hQ : Q = 168 * M * M * 1152921504606846976)
    (h : 4 * M * M * D' = -(3 * M * (D * D)) + D * D * D + G) (hD : -d ≤ D ∧ D ≤ d) (hG : -Q ≤ G ∧ G ≤ Q) (hd : 3 * M * (d * d) + d * d * d + Q ≤ 4 * M * M * d') : -d' ≤ D' ∧ D' ≤ d' := by
  have q1 := mul_bd hD hD
  have q2 := mul_bd q1 hD
  generalize D * D * D = x at *
  generalize D * D = y at *
  generalize d * d * d = a at *
  generalize d * d = c at *
  subst hQ
  subst hM
  omega
end Go.Proofs.YtihgijhjhmjolaaGreatDoor

/- How near to 1 by its root what Root reckons comes. -/
namespace Go.Proofs.YtihgijhjhmjolaaGreatDoor
set_option linter.unusedVariables false
/-- A product, rounded, that is not cut. -/
theorem mulq_is {a b : Wd} (h : -2305843008139952128 ≤ a.v * b.v ∧ a.v * b.v ≤ 2305843008139952128) : (mulqW a b).v = (a.v * b.v + 536870912) / 1073741824 := by
  show satI (a.v * b.v / 1073741824 + a.v * b.v / 536870912 % 2) = _
  generalize a.v * b.v = p at *
  unfold satI
  omega
theorem up2_is {a : Wd} (h : -536870912 ≤ a.v ∧ a.v ≤ 536870911) : (upW a 2).v = 4 * a.v := by
  show Go.RowKit.wrap32 (a.v % 4294967296 * 2 ^ sh 2 % 4294967296) = _
  have : sh 2 = 2 := by decide +kernel
  rw [this]
  unfold Go.RowKit.wrap32
  omega
theorem down1_is {a : Wd} : (downW a 1).v = a.v / 2 := by
  show a.v / 2 ^ sh 1 = _
  have : sh 1 = 1 := by decide +kernel
  rw [this]
  rfl
theorem subs_is {a b : Wd} (h : -2147483648 ≤ a.v - b.v ∧ a.v - b.v ≤ 2147483647) : (subsW a b).v = a.v - b.v := by
  show satI (a.v - b.v) = _
  unfold satI; omega
theorem adds_is {a b : Wd} (h : -2147483648 ≤ a.v + b.v ∧ a.v + b.v ≤ 2147483647) : (addsW a b).v = a.v + b.v := by
  show satI (a.v + b.v) = _
  unfold satI; omega
/-- How far 4uy² is from N³. -/
def dist (u y : Wd) : Int := 4 * (u.v * (y.v * y.v)) - 1237940039285380274899124224
/-- A step, in plain numbers. -/
theorem step_is {u y : Wd} (hu : 0 ≤ u.v ∧ u.v ≤ 1073741824) (hy : 0 ≤ y.v ∧ 5 * y.v ≤ 6 * 1073741824) (hd : -(2 * 1237940039285380274899124224) ≤ 5 * dist u y ∧ 5 * dist u y ≤ 2 * 1237940039285380274899124224) :
    ∃ yy w e ye hf : Int, -1073741824 ≤ 2 * (1073741824 * yy - y.v * y.v) ∧ 2 * (1073741824 * yy - y.v * y.v) ≤ 1073741824 ∧
      -1073741824 ≤ 2 * (1073741824 * w - u.v * yy) ∧ 2 * (1073741824 * w - u.v * yy) ≤ 1073741824 ∧ e = 1073741824 - 4 * w ∧
      -1073741824 ≤ 2 * (1073741824 * ye - y.v * e) ∧ 2 * (1073741824 * ye - y.v * e) ≤ 1073741824 ∧ 2 * hf ≤ ye ∧ ye ≤ 2 * hf + 1 ∧ (rootStep u y).v = y.v + hf := by
  have b1 := mul_bd (a := y.v) (b := y.v) (A := 1288490188) (B := 1288490188) (by omega) (by omega)
  have n1 : 0 ≤ y.v * y.v := Int.mul_nonneg hy.1 hy.1
  have m1 : (mulqW y y).v = (y.v * y.v + 536870912) / 1073741824 := mulq_is (by omega)
  have b2 := mul_bd (a := u.v) (b := (mulqW y y).v) (A := 1073741824) (B := 1546188227) (by omega) (by omega)
  have m2 : (mulqW u (mulqW y y)).v = (u.v * (mulqW y y).v + 536870912) / 1073741824 := mulq_is (by omega)
  have hw : 0 ≤ (mulqW u (mulqW y y)).v ∧ (mulqW u (mulqW y y)).v ≤ 536870911 := by
    have n2 : 0 ≤ u.v * (mulqW y y).v := Int.mul_nonneg hu.1 (by omega)
    have l1 := Int.mul_le_mul_of_nonneg_left (show 1073741824 * (mulqW y y).v ≤ y.v * y.v + 536870912 by omega) hu.1
    have e1 : u.v * (1073741824 * (mulqW y y).v) = 1073741824 * (u.v * (mulqW y y).v) := by grind
    have e2 : u.v * (y.v * y.v + 536870912) = u.v * (y.v * y.v) + 536870912 * u.v := by grind
    rw [e1, e2] at l1
    unfold dist at hd
    omega
  have m3 : (upW (mulqW u (mulqW y y)) 2).v = 4 * (mulqW u (mulqW y y)).v := up2_is (by omega)
  have k1 : (kW 1073741824).v = 1073741824 := kW_v (by decide)
  have m4 : (subsW (kW 1073741824) (upW (mulqW u (mulqW y y)) 2)).v = 1073741824 - 4 * (mulqW u (mulqW y y)).v := by
    rw [subs_is (by rw [k1, m3]; omega), k1, m3]
  have b3 := mul_bd (a := y.v) (b := (subsW (kW 1073741824) (upW (mulqW u (mulqW y y)) 2)).v) (A := 1288490188) (B := 1073741824) (by omega) (by omega)
  have m5 : (mulqW y (subsW (kW 1073741824) (upW (mulqW u (mulqW y y)) 2))).v = (y.v * (subsW (kW 1073741824) (upW (mulqW u (mulqW y y)) 2)).v + 536870912) / 1073741824 := mulq_is (by omega)
  have m6 : (downW (mulqW y (subsW (kW 1073741824) (upW (mulqW u (mulqW y y)) 2))) 1).v = (mulqW y (subsW (kW 1073741824) (upW (mulqW u (mulqW y y)) 2))).v / 2 := down1_is
  refine ⟨(mulqW y y).v, (mulqW u (mulqW y y)).v, _, (mulqW y (subsW (kW 1073741824) (upW (mulqW u (mulqW y y)) 2))).v, (downW (mulqW y (subsW (kW 1073741824) (upW (mulqW u (mulqW y y)) 2))) 1).v, ?_, ?_, ?_, ?_, m4, ?_, ?_, ?_, ?_, ?_⟩
  · omega
  · omega
  · omega
  · omega
  · omega
  · omega
  · omega
  · omega
  · exact adds_is (by omega)
/-- A step's bound. -/
theorem step_dist {u y : Wd} {d d' : Int} (hu : 0 ≤ u.v ∧ u.v ≤ 1073741824) (hy : 0 ≤ y.v ∧ 5 * y.v ≤ 6 * 1073741824) (hd5 : 5 * d ≤ 2 * 1237940039285380274899124224) (hd : -d ≤ dist u y ∧ dist u y ≤ d)
    (hd' : 3 * 1237940039285380274899124224 * (d * d) + d * d * d + 168 * 1237940039285380274899124224 * 1237940039285380274899124224 * 1152921504606846976 ≤ 4 * 1237940039285380274899124224 * 1237940039285380274899124224 * d') :
    -d' ≤ dist u (rootStep u y) ∧ dist u (rootStep u y) ≤ d' := by
  obtain ⟨yy, w, e, ye, hf, a1, a2, b1, b2, he, c1, c2, d1, d2, hz⟩ := step_is hu hy (by omega)
  obtain ⟨F, f1, f2, f3⟩ := newton (u := u.v) (y := y.v) (yy := yy) (w := w) (e := e) (ye := ye) (hf := hf) (z := (rootStep u y).v) (D := dist u y) (N := 1073741824) rfl hu hy ⟨a1, a2⟩ ⟨b1, b2⟩ he ⟨c1, c2⟩ ⟨d1, d2⟩ hz rfl
  obtain ⟨G, g1, g2, g3⟩ := newton_D (u := u.v) (y := y.v) (z := (rootStep u y).v) (D := dist u y) (D' := dist u (rootStep u y)) (F := F) (N := 1073741824) rfl hu hy rfl rfl f1 f2 f3 (by omega)
  exact step_bd (G := G) (Q := 168 * 1237940039285380274899124224 * 1237940039285380274899124224 * 1152921504606846976) rfl rfl g1 hd ⟨g2, g3⟩ hd'
/-- The lowest and the highest first guess for u's upper bits q, and their squares times u. -/
def guess (u : Int) : Int := 1184766729 - (715827883 * u + 536870912) / 1073741824
def okQ (q : Nat) : Bool :=
  let lo : Int := q * 16777216
  let hi : Int := q * 16777216 + 16777215
  decide (0 ≤ guess hi) && decide (4 * (4 * (hi * (guess lo * guess lo)) - 1237940039285380274899124224) ≤ 1237940039285380274899124224) && decide (-1237940039285380274899124224 ≤ 4 * (4 * (lo * (guess hi * guess hi)) - 1237940039285380274899124224)) && decide (5 * guess lo ≤ 6 * 1073741824)
theorem guess_mono {a b : Int} (h : a ≤ b) : guess b ≤ guess a := by
  unfold guess
  have := Int.ediv_le_ediv (show (0 : Int) < 1073741824 by decide) (show 715827883 * a + 536870912 ≤ 715827883 * b + 536870912 by omega)
  omega
theorem okQ_parts {q : Nat} (h : okQ q = true) : 0 ≤ guess (q * 16777216 + 16777215) ∧ 4 * (4 * ((q * 16777216 + 16777215 : Int) * (guess (q * 16777216) * guess (q * 16777216))) - 1237940039285380274899124224) ≤ 1237940039285380274899124224 ∧
    -1237940039285380274899124224 ≤ 4 * (4 * ((q * 16777216 : Int) * (guess (q * 16777216 + 16777215) * guess (q * 16777216 + 16777215))) - 1237940039285380274899124224) ∧ 5 * guess (q * 16777216) ≤ 6 * 1073741824 := by
  have h' := Bool.and_eq_true_iff.1 h
  have h'' := Bool.and_eq_true_iff.1 h'.1
  have h3 := Bool.and_eq_true_iff.1 h''.1
  exact ⟨of_decide_eq_true h3.1, of_decide_eq_true h3.2, of_decide_eq_true h''.2, of_decide_eq_true h'.2⟩
theorem okQ_all : ∀ q, q < 64 → 16 ≤ q → okQ q = true := by decide +kernel
theorem start_dist {u : Wd} (hu : 268435456 ≤ u.v ∧ u.v < 1073741824) :
    (0 ≤ (rootZ0 u).v ∧ 5 * (rootZ0 u).v ≤ 6 * 1073741824) ∧ -309485009821345068724781056 ≤ dist u (rootZ0 u) ∧ dist u (rootZ0 u) ≤ 309485009821345068724781056 := by
  have k1 : (kW 715827883).v = 715827883 := kW_v (by decide)
  have k2 : (kW 1184766729).v = 1184766729 := kW_v (by decide)
  have m1 : (mulqW (kW 715827883) u).v = (715827883 * u.v + 536870912) / 1073741824 := by
    rw [mulq_is (by rw [k1]; omega), k1]
  have hz : (rootZ0 u).v = guess u.v := by
    show (subsW (kW 1184766729) (mulqW (kW 715827883) u)).v = _
    rw [subs_is (by rw [k2, m1]; omega), k2, m1]
    rfl
  obtain ⟨q, hq⟩ : ∃ q : Nat, (q : Int) = u.v / 16777216 := ⟨(u.v / 16777216).toNat, by omega⟩
  have q1 : q < 64 := by omega
  have q2 : 16 ≤ q := by omega
  have l1 : (q : Int) * 16777216 ≤ u.v := by omega
  have l2 : u.v ≤ (q : Int) * 16777216 + 16777215 := by omega
  have l3 : 0 ≤ (q : Int) * 16777216 := by omega
  obtain ⟨h0, h1, h2, h3⟩ := okQ_parts (okQ_all q q1 q2)
  have g1 : guess ((q : Int) * 16777216 + 16777215) ≤ guess u.v := guess_mono l2
  have g2 : guess u.v ≤ guess ((q : Int) * 16777216) := guess_mono l1
  clear hq q1 q2 m1
  generalize guess ((q : Int) * 16777216 + 16777215) = G1 at *
  generalize guess ((q : Int) * 16777216) = G2 at *
  generalize guess u.v = G at *
  generalize (q : Int) * 16777216 = A at *
  have z0 : 0 ≤ G := by omega
  rw [hz]
  refine ⟨⟨z0, by omega⟩, ?_⟩
  have s1 : G * G ≤ G2 * G2 := Int.mul_le_mul g2 g2 z0 (by omega)
  have s2 : G1 * G1 ≤ G * G := Int.mul_le_mul g1 g1 h0 z0
  have p1 : u.v * (G * G) ≤ (A + 16777215) * (G2 * G2) := Int.mul_le_mul l2 s1 (Int.mul_nonneg z0 z0) (by omega)
  have p2 : A * (G1 * G1) ≤ u.v * (G * G) := Int.mul_le_mul l1 s2 (Int.mul_nonneg h0 h0) (by omega)
  unfold dist
  rw [hz]
  generalize u.v * (G * G) = X at *
  generalize (A + 16777215) * (G2 * G2) = Y at *
  generalize A * (G1 * G1) = Z at *
  clear s1 s2 g1 g2
  constructor
  · omega
  · omega
end Go.Proofs.YtihgijhjhmjolaaGreatDoor

/- Four steps. -/
namespace Go.Proofs.YtihgijhjhmjolaaGreatDoor
set_option linter.unusedVariables false
theorem root_range {u y : Wd} (hu : 268435456 ≤ u.v ∧ u.v ≤ 1073741824) (hy : 0 ≤ y.v) (hd : -(2 * 1237940039285380274899124224) ≤ 5 * dist u y ∧ 5 * dist u y ≤ 2 * 1237940039285380274899124224) : 1073741824 ≤ 3 * y.v ∧ 5 * y.v ≤ 6 * 1073741824 := by
  unfold dist at hd
  constructor
  · refine Int.not_lt.1 (fun h => ?_)
    have h1 : y.v * y.v ≤ 357913941 * 357913941 := Int.mul_le_mul (by omega) (by omega) hy (by omega)
    have h2 : u.v * (y.v * y.v) ≤ 1073741824 * (357913941 * 357913941) := Int.mul_le_mul hu.2 h1 (Int.mul_nonneg hy hy) (by omega)
    omega
  · refine Int.not_lt.1 (fun h => ?_)
    have h1 : 1288490188 * 1288490188 ≤ y.v * y.v := Int.mul_le_mul (by omega) (by omega) (by omega) hy
    have h2 : 268435456 * (1288490188 * 1288490188) ≤ u.v * (y.v * y.v) := Int.mul_le_mul hu.1 h1 (by omega) (by omega)
    omega
theorem root_step {u y : Wd} {d d' : Int} (hu : 268435456 ≤ u.v ∧ u.v ≤ 1073741824) (hy : 0 ≤ y.v) (hd5 : 5 * d ≤ 2 * 1237940039285380274899124224) (hd : -d ≤ dist u y ∧ dist u y ≤ d)
    (hd' : 3 * 1237940039285380274899124224 * (d * d) + d * d * d + 168 * 1237940039285380274899124224 * 1237940039285380274899124224 * 1152921504606846976 ≤ 4 * 1237940039285380274899124224 * 1237940039285380274899124224 * d') :
    0 ≤ (rootStep u y).v ∧ -d' ≤ dist u (rootStep u y) ∧ dist u (rootStep u y) ≤ d' := by
  have hr := root_range hu hy (by omega)
  have hu' : 0 ≤ u.v ∧ u.v ≤ 1073741824 := by omega
  refine ⟨?_, step_dist hu' ⟨hy, hr.2⟩ hd5 hd hd'⟩
  obtain ⟨yy, w, e, ye, hf, a1, a2, b1, b2, he, c1, c2, d1, d2, hz⟩ := step_is hu' ⟨hy, hr.2⟩ (by omega)
  obtain ⟨F, f1, f2, f3⟩ := newton (u := u.v) (y := y.v) (yy := yy) (w := w) (e := e) (ye := ye) (hf := hf) (z := (rootStep u y).v) (D := dist u y) (N := 1073741824) rfl hu' ⟨hy, hr.2⟩ ⟨a1, a2⟩ ⟨b1, b2⟩ he ⟨c1, c2⟩ ⟨d1, d2⟩ hz rfl
  have p : 357913941 * 1237940039285380274899124224 ≤ y.v * (2 * (1073741824 * 1073741824 * 1073741824) - dist u y) := Int.mul_le_mul (by omega) (by omega) (by omega) hy
  clear a1 a2 b1 b2 c1 c2 d1 d2 hz he
  generalize y.v * (2 * (1073741824 * 1073741824 * 1073741824) - dist u y) = P at *
  omega
theorem rootZ_dist {u : Wd} (hu : 268435456 ≤ u.v ∧ u.v < 1073741824) :
    1073741824 ≤ 3 * (rootZ u 4).v ∧ 5 * (rootZ u 4).v ≤ 6 * 1073741824 ∧ -48430741160944183193 ≤ dist u (rootZ u 4) ∧ dist u (rootZ u 4) ≤ 48430741160944183193 := by
  have hu2 : 268435456 ≤ u.v ∧ u.v ≤ 1073741824 := by omega
  obtain ⟨⟨y0, _⟩, a0⟩ := start_dist hu
  obtain ⟨y1, a1⟩ := root_step (u := u) (y := rootZ u 0) (d := 309485009821345068724781056) (d' := 62864191042663910572294144) hu2 y0 (by decide) a0 (by decide)
  obtain ⟨y2, a2⟩ := root_step (u := u) (y := rootZ u 1) (d := 62864191042663910572294144) (d' := 2434819508349633417988186) hu2 y1 (by decide) a1 (by decide)
  obtain ⟨y3, a3⟩ := root_step (u := u) (y := rootZ u 2) (d := 2434819508349633417988186) (d' := 3642437277383759613889) hu2 y2 (by decide) a2 (by decide)
  obtain ⟨y4, a4⟩ := root_step (u := u) (y := rootZ u 3) (d := 3642437277383759613889) (d' := 48430741160944183193) hu2 y3 (by decide) a3 (by decide)
  have hr := root_range hu2 y4 (by omega)
  exact ⟨hr.1, hr.2, a4⟩
end Go.Proofs.YtihgijhjhmjolaaGreatDoor

/- The root of a word. -/
namespace Go.Proofs.YtihgijhjhmjolaaGreatDoor
open Go.RowKit Go.Deep
set_option linter.unusedVariables false
theorem clz_of {x : Wd} (k P : Nat) (hk : k ≤ 30) (hP : P = 2 ^ k) (h0 : (P : Int) ≤ x.v) (h1 : x.v < 2 * (P : Int)) : clzI x.v = 31 - (k : Int) := by
  have ok := x.ok
  unfold In32 at ok
  have pp : 0 < P := by rw [hP]; exact Nat.pow_pos (by decide)
  unfold clzI
  rw [show x.v % 4294967296 = x.v by omega]
  rw [Lib.bitLen_shift k x.v.toNat (by rw [← hP]; omega) (by omega)]
  have e : x.v.toNat / 2 ^ k = 1 := by
    rw [← hP]
    exact Nat.div_eq_of_lt_le (by omega) (by omega)
  rw [e, show Lib.bitLen 1 = 1 by decide +kernel]
  omega
theorem u_of {x : Wd} {t : Int} {T : Int} (n : Nat) (ht : rootT x = kW t) (hs : sh (kW t).v = n) (hT : (2 : Int) ^ n = 4 * T) (h0 : 0 ≤ x.v) (h1 : x.v * (4 * T) < 4294967296) : (rootU x).v = x.v * T := by
  show shrI (shlI x.v (rootT x).v) (kW 2).v = _
  rw [ht]
  unfold shrI shlI
  rw [hs, hT, show sh (kW 2).v = 2 by decide +kernel, show ((2 : Int) ^ 2) = 4 by decide]
  have ok := x.ok
  unfold In32 at ok
  rw [show x.v % 4294967296 = x.v by omega]
  have e : x.v * (4 * T) = 4 * (x.v * T) := by rw [Int.mul_left_comm]
  have q0 : 0 ≤ T := by
    have : (0 : Int) < 2 ^ n := Int.pow_pos (by decide)
    omega
  have q : 0 ≤ x.v * T := Int.mul_nonneg h0 q0
  rw [e] at h1 ⊢
  generalize x.v * T = y at *
  unfold wrap32
  omega
theorem root_1 {x : Wd} (l : 268435456 ≤ x.v) (r : x.v < 1073741824) : (rootU x).v = x.v * 1 ∧ (rootW x).2.v = 1 := by
  have ht : rootT x = kW 2 := by
    apply Wd.ext_
    show andI (clzI x.v) (kW 30).v = (kW 2).v
    by_cases c : x.v < 536870912
    · rw [clz_of 28 268435456 (by decide) (by decide) l (by omega)]; decide +kernel
    · rw [clz_of 29 536870912 (by decide) (by decide) (by omega) (by omega)]; decide +kernel
  refine ⟨u_of 2 ht (by decide +kernel) (by decide) (by omega) (by omega), ?_⟩
  show shrI (rootT x).v (kW 1).v = _
  rw [ht]
  decide +kernel
theorem root_2 {x : Wd} (l : 67108864 ≤ x.v) (r : x.v < 268435456) : (rootU x).v = x.v * 4 ∧ (rootW x).2.v = 2 := by
  have ht : rootT x = kW 4 := by
    apply Wd.ext_
    show andI (clzI x.v) (kW 30).v = (kW 4).v
    by_cases c : x.v < 134217728
    · rw [clz_of 26 67108864 (by decide) (by decide) l (by omega)]; decide +kernel
    · rw [clz_of 27 134217728 (by decide) (by decide) (by omega) (by omega)]; decide +kernel
  refine ⟨u_of 4 ht (by decide +kernel) (by decide) (by omega) (by omega), ?_⟩
  show shrI (rootT x).v (kW 1).v = _
  rw [ht]
  decide +kernel
theorem root_3 {x : Wd} (l : 16777216 ≤ x.v) (r : x.v < 67108864) : (rootU x).v = x.v * 16 ∧ (rootW x).2.v = 3 := by
  have ht : rootT x = kW 6 := by
    apply Wd.ext_
    show andI (clzI x.v) (kW 30).v = (kW 6).v
    by_cases c : x.v < 33554432
    · rw [clz_of 24 16777216 (by decide) (by decide) l (by omega)]; decide +kernel
    · rw [clz_of 25 33554432 (by decide) (by decide) (by omega) (by omega)]; decide +kernel
  refine ⟨u_of 6 ht (by decide +kernel) (by decide) (by omega) (by omega), ?_⟩
  show shrI (rootT x).v (kW 1).v = _
  rw [ht]
  decide +kernel
theorem root_4 {x : Wd} (l : 4194304 ≤ x.v) (r : x.v < 16777216) : (rootU x).v = x.v * 64 ∧ (rootW x).2.v = 4 := by
  have ht : rootT x = kW 8 := by
    apply Wd.ext_
    show andI (clzI x.v) (kW 30).v = (kW 8).v
    by_cases c : x.v < 8388608
    · rw [clz_of 22 4194304 (by decide) (by decide) l (by omega)]; decide +kernel
    · rw [clz_of 23 8388608 (by decide) (by decide) (by omega) (by omega)]; decide +kernel
  refine ⟨u_of 8 ht (by decide +kernel) (by decide) (by omega) (by omega), ?_⟩
  show shrI (rootT x).v (kW 1).v = _
  rw [ht]
  decide +kernel
theorem root_5 {x : Wd} (l : 1048576 ≤ x.v) (r : x.v < 4194304) : (rootU x).v = x.v * 256 ∧ (rootW x).2.v = 5 := by
  have ht : rootT x = kW 10 := by
    apply Wd.ext_
    show andI (clzI x.v) (kW 30).v = (kW 10).v
    by_cases c : x.v < 2097152
    · rw [clz_of 20 1048576 (by decide) (by decide) l (by omega)]; decide +kernel
    · rw [clz_of 21 2097152 (by decide) (by decide) (by omega) (by omega)]; decide +kernel
  refine ⟨u_of 10 ht (by decide +kernel) (by decide) (by omega) (by omega), ?_⟩
  show shrI (rootT x).v (kW 1).v = _
  rw [ht]
  decide +kernel
theorem root_6 {x : Wd} (l : 262144 ≤ x.v) (r : x.v < 1048576) : (rootU x).v = x.v * 1024 ∧ (rootW x).2.v = 6 := by
  have ht : rootT x = kW 12 := by
    apply Wd.ext_
    show andI (clzI x.v) (kW 30).v = (kW 12).v
    by_cases c : x.v < 524288
    · rw [clz_of 18 262144 (by decide) (by decide) l (by omega)]; decide +kernel
    · rw [clz_of 19 524288 (by decide) (by decide) (by omega) (by omega)]; decide +kernel
  refine ⟨u_of 12 ht (by decide +kernel) (by decide) (by omega) (by omega), ?_⟩
  show shrI (rootT x).v (kW 1).v = _
  rw [ht]
  decide +kernel
theorem root_7 {x : Wd} (l : 65536 ≤ x.v) (r : x.v < 262144) : (rootU x).v = x.v * 4096 ∧ (rootW x).2.v = 7 := by
  have ht : rootT x = kW 14 := by
    apply Wd.ext_
    show andI (clzI x.v) (kW 30).v = (kW 14).v
    by_cases c : x.v < 131072
    · rw [clz_of 16 65536 (by decide) (by decide) l (by omega)]; decide +kernel
    · rw [clz_of 17 131072 (by decide) (by decide) (by omega) (by omega)]; decide +kernel
  refine ⟨u_of 14 ht (by decide +kernel) (by decide) (by omega) (by omega), ?_⟩
  show shrI (rootT x).v (kW 1).v = _
  rw [ht]
  decide +kernel
theorem root_8 {x : Wd} (l : 16384 ≤ x.v) (r : x.v < 65536) : (rootU x).v = x.v * 16384 ∧ (rootW x).2.v = 8 := by
  have ht : rootT x = kW 16 := by
    apply Wd.ext_
    show andI (clzI x.v) (kW 30).v = (kW 16).v
    by_cases c : x.v < 32768
    · rw [clz_of 14 16384 (by decide) (by decide) l (by omega)]; decide +kernel
    · rw [clz_of 15 32768 (by decide) (by decide) (by omega) (by omega)]; decide +kernel
  refine ⟨u_of 16 ht (by decide +kernel) (by decide) (by omega) (by omega), ?_⟩
  show shrI (rootT x).v (kW 1).v = _
  rw [ht]
  decide +kernel
theorem root_9 {x : Wd} (l : 4096 ≤ x.v) (r : x.v < 16384) : (rootU x).v = x.v * 65536 ∧ (rootW x).2.v = 9 := by
  have ht : rootT x = kW 18 := by
    apply Wd.ext_
    show andI (clzI x.v) (kW 30).v = (kW 18).v
    by_cases c : x.v < 8192
    · rw [clz_of 12 4096 (by decide) (by decide) l (by omega)]; decide +kernel
    · rw [clz_of 13 8192 (by decide) (by decide) (by omega) (by omega)]; decide +kernel
  refine ⟨u_of 18 ht (by decide +kernel) (by decide) (by omega) (by omega), ?_⟩
  show shrI (rootT x).v (kW 1).v = _
  rw [ht]
  decide +kernel
theorem root_10 {x : Wd} (l : 1024 ≤ x.v) (r : x.v < 4096) : (rootU x).v = x.v * 262144 ∧ (rootW x).2.v = 10 := by
  have ht : rootT x = kW 20 := by
    apply Wd.ext_
    show andI (clzI x.v) (kW 30).v = (kW 20).v
    by_cases c : x.v < 2048
    · rw [clz_of 10 1024 (by decide) (by decide) l (by omega)]; decide +kernel
    · rw [clz_of 11 2048 (by decide) (by decide) (by omega) (by omega)]; decide +kernel
  refine ⟨u_of 20 ht (by decide +kernel) (by decide) (by omega) (by omega), ?_⟩
  show shrI (rootT x).v (kW 1).v = _
  rw [ht]
  decide +kernel
theorem root_11 {x : Wd} (l : 256 ≤ x.v) (r : x.v < 1024) : (rootU x).v = x.v * 1048576 ∧ (rootW x).2.v = 11 := by
  have ht : rootT x = kW 22 := by
    apply Wd.ext_
    show andI (clzI x.v) (kW 30).v = (kW 22).v
    by_cases c : x.v < 512
    · rw [clz_of 8 256 (by decide) (by decide) l (by omega)]; decide +kernel
    · rw [clz_of 9 512 (by decide) (by decide) (by omega) (by omega)]; decide +kernel
  refine ⟨u_of 22 ht (by decide +kernel) (by decide) (by omega) (by omega), ?_⟩
  show shrI (rootT x).v (kW 1).v = _
  rw [ht]
  decide +kernel
theorem root_12 {x : Wd} (l : 64 ≤ x.v) (r : x.v < 256) : (rootU x).v = x.v * 4194304 ∧ (rootW x).2.v = 12 := by
  have ht : rootT x = kW 24 := by
    apply Wd.ext_
    show andI (clzI x.v) (kW 30).v = (kW 24).v
    by_cases c : x.v < 128
    · rw [clz_of 6 64 (by decide) (by decide) l (by omega)]; decide +kernel
    · rw [clz_of 7 128 (by decide) (by decide) (by omega) (by omega)]; decide +kernel
  refine ⟨u_of 24 ht (by decide +kernel) (by decide) (by omega) (by omega), ?_⟩
  show shrI (rootT x).v (kW 1).v = _
  rw [ht]
  decide +kernel
theorem root_13 {x : Wd} (l : 16 ≤ x.v) (r : x.v < 64) : (rootU x).v = x.v * 16777216 ∧ (rootW x).2.v = 13 := by
  have ht : rootT x = kW 26 := by
    apply Wd.ext_
    show andI (clzI x.v) (kW 30).v = (kW 26).v
    by_cases c : x.v < 32
    · rw [clz_of 4 16 (by decide) (by decide) l (by omega)]; decide +kernel
    · rw [clz_of 5 32 (by decide) (by decide) (by omega) (by omega)]; decide +kernel
  refine ⟨u_of 26 ht (by decide +kernel) (by decide) (by omega) (by omega), ?_⟩
  show shrI (rootT x).v (kW 1).v = _
  rw [ht]
  decide +kernel
theorem root_14 {x : Wd} (l : 4 ≤ x.v) (r : x.v < 16) : (rootU x).v = x.v * 67108864 ∧ (rootW x).2.v = 14 := by
  have ht : rootT x = kW 28 := by
    apply Wd.ext_
    show andI (clzI x.v) (kW 30).v = (kW 28).v
    by_cases c : x.v < 8
    · rw [clz_of 2 4 (by decide) (by decide) l (by omega)]; decide +kernel
    · rw [clz_of 3 8 (by decide) (by decide) (by omega) (by omega)]; decide +kernel
  refine ⟨u_of 28 ht (by decide +kernel) (by decide) (by omega) (by omega), ?_⟩
  show shrI (rootT x).v (kW 1).v = _
  rw [ht]
  decide +kernel
theorem root_15 {x : Wd} (l : 1 ≤ x.v) (r : x.v < 4) : (rootU x).v = x.v * 268435456 ∧ (rootW x).2.v = 15 := by
  have ht : rootT x = kW 30 := by
    apply Wd.ext_
    show andI (clzI x.v) (kW 30).v = (kW 30).v
    by_cases c : x.v < 2
    · rw [clz_of 0 1 (by decide) (by decide) l (by omega)]; decide +kernel
    · rw [clz_of 1 2 (by decide) (by decide) (by omega) (by omega)]; decide +kernel
  refine ⟨u_of 30 ht (by decide +kernel) (by decide) (by omega) (by omega), ?_⟩
  show shrI (rootT x).v (kW 1).v = _
  rw [ht]
  decide +kernel
/-- Of a word below 2^30: the power H of 2 to come, and 4^H n z z near 2^90. -/
theorem root_word {x : Wd} (h0 : 1000000 ≤ x.v) (h1 : x.v ≤ 400000000) :
    ∃ (h : Nat) (H : Int), (rootW x).2 = kW h ∧ h ≤ 6 ∧ H = 2 ^ h ∧ H ≤ 64 ∧ 0 < H ∧ 268435456 ≤ x.v * (H * H) / 4 ∧ 4 * (x.v * (H * H) / 4) = x.v * (H * H) ∧ (rootU x).v = x.v * (H * H) / 4 ∧ (rootU x).v < 1073741824 := by
  by_cases c1 : 268435456 ≤ x.v
  · obtain ⟨a, b⟩ := root_1 c1 (by omega)
    exact ⟨1, 2, Wd.ext_ (b.trans (by decide +kernel)), by decide, by decide, by decide, by decide, by omega, by omega, by omega, by omega⟩
  by_cases c2 : 67108864 ≤ x.v
  · obtain ⟨a, b⟩ := root_2 c2 (by omega)
    exact ⟨2, 4, Wd.ext_ (b.trans (by decide +kernel)), by decide, by decide, by decide, by decide, by omega, by omega, by omega, by omega⟩
  by_cases c3 : 16777216 ≤ x.v
  · obtain ⟨a, b⟩ := root_3 c3 (by omega)
    exact ⟨3, 8, Wd.ext_ (b.trans (by decide +kernel)), by decide, by decide, by decide, by decide, by omega, by omega, by omega, by omega⟩
  by_cases c4 : 4194304 ≤ x.v
  · obtain ⟨a, b⟩ := root_4 c4 (by omega)
    exact ⟨4, 16, Wd.ext_ (b.trans (by decide +kernel)), by decide, by decide, by decide, by decide, by omega, by omega, by omega, by omega⟩
  by_cases c5 : 1048576 ≤ x.v
  · obtain ⟨a, b⟩ := root_5 c5 (by omega)
    exact ⟨5, 32, Wd.ext_ (b.trans (by decide +kernel)), by decide, by decide, by decide, by decide, by omega, by omega, by omega, by omega⟩
  obtain ⟨a, b⟩ := root_6 (x := x) (by omega) (by omega)
  exact ⟨6, 64, Wd.ext_ (b.trans (by decide +kernel)), by decide, by decide, by decide, by decide, by omega, by omega, by omega, by omega⟩
end Go.Proofs.YtihgijhjhmjolaaGreatDoor

/- The root of any word. -/
namespace Go.Proofs.YtihgijhjhmjolaaGreatDoor
open Go.RowKit Go.Deep
set_option linter.unusedVariables false
theorem root_0 {x : Wd} (l : 1073741824 ≤ x.v) : (rootU x).v = x.v / 4 ∧ (rootW x).2.v = 0 := by
  have ok := x.ok
  unfold In32 at ok
  have ht : rootT x = kW 0 := by
    apply Wd.ext_
    show andI (clzI x.v) (kW 30).v = (kW 0).v
    rw [clz_of 30 1073741824 (by decide) (by decide) l (by omega)]; decide +kernel
  constructor
  · show shrI (shlI x.v (rootT x).v) (kW 2).v = _
    rw [ht]
    unfold shrI shlI
    rw [show sh (kW 0).v = 0 by decide +kernel, show sh (kW 2).v = 2 by decide +kernel, show ((2 : Int) ^ 2) = 4 by decide, show ((2 : Int) ^ 0) = 1 by decide]
    unfold wrap32
    omega
  · show shrI (rootT x).v (kW 1).v = _
    rw [ht]
    decide +kernel
/-- Of any word from 256 on. -/
theorem even_word {x : Wd} (h0 : 256 ≤ x.v) :
    ∃ (h : Nat) (H : Int), (rootW x).2 = kW h ∧ h ≤ 11 ∧ H = 2 ^ h ∧ H ≤ 2048 ∧ 0 < H ∧ (x.v - 3) * (H * H) ≤ 4 * (rootU x).v ∧ 268435456 ≤ (rootU x).v ∧ (rootU x).v < 1073741824 := by
  have ok := x.ok
  unfold In32 at ok
  by_cases c0 : 1073741824 ≤ x.v
  · obtain ⟨a, b⟩ := root_0 (x := x) c0
    exact ⟨0, 1, Wd.ext_ (b.trans (by decide +kernel)), by decide, by decide, by decide, by decide, by omega, by omega, by omega⟩
  by_cases c1 : 268435456 ≤ x.v
  · obtain ⟨a, b⟩ := root_1 (x := x) c1 (by omega)
    exact ⟨1, 2, Wd.ext_ (b.trans (by decide +kernel)), by decide, by decide, by decide, by decide, by omega, by omega, by omega⟩
  by_cases c2 : 67108864 ≤ x.v
  · obtain ⟨a, b⟩ := root_2 (x := x) c2 (by omega)
    exact ⟨2, 4, Wd.ext_ (b.trans (by decide +kernel)), by decide, by decide, by decide, by decide, by omega, by omega, by omega⟩
  by_cases c3 : 16777216 ≤ x.v
  · obtain ⟨a, b⟩ := root_3 (x := x) c3 (by omega)
    exact ⟨3, 8, Wd.ext_ (b.trans (by decide +kernel)), by decide, by decide, by decide, by decide, by omega, by omega, by omega⟩
  by_cases c4 : 4194304 ≤ x.v
  · obtain ⟨a, b⟩ := root_4 (x := x) c4 (by omega)
    exact ⟨4, 16, Wd.ext_ (b.trans (by decide +kernel)), by decide, by decide, by decide, by decide, by omega, by omega, by omega⟩
  by_cases c5 : 1048576 ≤ x.v
  · obtain ⟨a, b⟩ := root_5 (x := x) c5 (by omega)
    exact ⟨5, 32, Wd.ext_ (b.trans (by decide +kernel)), by decide, by decide, by decide, by decide, by omega, by omega, by omega⟩
  by_cases c6 : 262144 ≤ x.v
  · obtain ⟨a, b⟩ := root_6 (x := x) c6 (by omega)
    exact ⟨6, 64, Wd.ext_ (b.trans (by decide +kernel)), by decide, by decide, by decide, by decide, by omega, by omega, by omega⟩
  by_cases c7 : 65536 ≤ x.v
  · obtain ⟨a, b⟩ := root_7 (x := x) c7 (by omega)
    exact ⟨7, 128, Wd.ext_ (b.trans (by decide +kernel)), by decide, by decide, by decide, by decide, by omega, by omega, by omega⟩
  by_cases c8 : 16384 ≤ x.v
  · obtain ⟨a, b⟩ := root_8 (x := x) c8 (by omega)
    exact ⟨8, 256, Wd.ext_ (b.trans (by decide +kernel)), by decide, by decide, by decide, by decide, by omega, by omega, by omega⟩
  by_cases c9 : 4096 ≤ x.v
  · obtain ⟨a, b⟩ := root_9 (x := x) c9 (by omega)
    exact ⟨9, 512, Wd.ext_ (b.trans (by decide +kernel)), by decide, by decide, by decide, by decide, by omega, by omega, by omega⟩
  by_cases c10 : 1024 ≤ x.v
  · obtain ⟨a, b⟩ := root_10 (x := x) c10 (by omega)
    exact ⟨10, 1024, Wd.ext_ (b.trans (by decide +kernel)), by decide, by decide, by decide, by decide, by omega, by omega, by omega⟩
  obtain ⟨a, b⟩ := root_11 (x := x) (by omega) (by omega)
  exact ⟨11, 2048, Wd.ext_ (b.trans (by decide +kernel)), by decide, by decide, by decide, by decide, by omega, by omega, by omega⟩
end Go.Proofs.YtihgijhjhmjolaaGreatDoor

/- (The definitions stand in Wdef.) -/

/- Whether a quaternion's squares are near to 2^60. -/
namespace Go.Proofs.YtihgijhjhmjolaaGreatDoor
open Go.RowKit Go.Deep
set_option linter.unusedVariables false
instance (a b c d : Wd) : Decidable (IsQ a b c d) := by unfold IsQ; infer_instance
def isB (a b c d : Wd) : Bool := decide (IsQ a b c d)
def isS (a b c d : Int) : Nat → Int
  | 0 => 0
  | 1 => a * a
  | 2 => a * a + b * b
  | 3 => a * a + b * b + c * c
  | _ => a * a + b * b + c * c + d * d
theorem isB_no {a b c d : Wd} (h : ¬ IsQ a b c d) : isB a b c d = false := decide_eq_false h
theorem isB_yes {a b c d : Wd} (h : IsQ a b c d) : isB a b c d = true := decide_eq_true h
theorem sq_cap {x : Int} (h : -1342177280 ≤ x ∧ x ≤ 1342177280) : 0 ≤ x * x ∧ x * x ≤ 1801439850948198400 := ⟨sq_nonneg _, (mul_bd h h).2⟩
set_option maxRecDepth 100000 in
set_option maxHeartbeats 8000000 in
theorem is_calls (a b c d : Wd) (w : World) : Calls Tryz.prog 17 #[.agg #[.int .i32 a.v, .int .i32 b.v, .int .i32 c.v, .int .i32 d.v]] w fun e w' => e = .returned (.bool (isB a b c d)) ∧ Chg w w' [] := by
  have k0 := Blk.new w 23 [.int .i32 a.v, .int .i32 b.v, .int .i32 c.v, .int .i32 d.v]
  have m0 := k0
  have g0_0 := m0.cell' (i := 0) rfl
  have g0_1 := m0.cell' (i := 1) rfl
  have g0_2 := m0.cell' (i := 2) rfl
  have g0_3 := m0.cell' (i := 3) rfl
  have HC := hide ((Chg.refl w []).alloc (.cells #[.int .i32 a.v, .int .i32 b.v, .int .i32 c.v, .int .i32 d.v] 23))
  clear k0
  clear m0
  go_enter Tryz.func17, Tryz.ntmps17
  go_wp2_with fail
  generalize hw5 : (w.alloc (.cells #[.int .i32 a.v, .int .i32 b.v, .int .i32 c.v, .int .i32 d.v] 23)) = w5 at *
  clear hw5
  go_loopw [3, 4] (fun n i wr => ∃ k : Nat, k ≤ 4 ∧ i = .int .i64 k ∧ n = .int .i64 (isS a.v b.v c.v d.v k) ∧ Hid (Chg w5 wr []) ∧ (1 ≤ k → -1342177280 ≤ a.v ∧ a.v ≤ 1342177280) ∧ (2 ≤ k → -1342177280 ≤ b.v ∧ b.v ≤ 1342177280) ∧ (3 ≤ k → -1342177280 ≤ c.v ∧ c.v ≤ 1342177280) ∧ (4 ≤ k → -1342177280 ≤ d.v ∧ d.v ≤ 1342177280)) (fun _ i _ => 4 - (intOf i).toNat)
  case atStart => exact ⟨0, by omega, rfl, rfl, Chg.refl _ _, by omega, by omega, by omega, by omega⟩
  case round =>
    obtain ⟨k, hk, rfl, rfl, HK, r1, r2, r3, r4⟩ := hrel
    have R1 := hide r1
    have R2 := hide r2
    have R3 := hide r3
    have R4 := hide r4
    clear r1 r2 r3 r4
    have z0 := HK.out.cell g0_0 (by simp)
    have z1 := HK.out.cell g0_1 (by simp)
    have z2 := HK.out.cell g0_2 (by simp)
    have z3 := HK.out.cell g0_3 (by simp)
    clear g0_0 g0_1 g0_2 g0_3
    rcases (by omega : k = 0 ∨ k = 1 ∨ k = 2 ∨ k = 3 ∨ k = 4) with rfl | rfl | rfl | rfl | rfl
    · replace HK : Hid (Chg w5 wr []) := HK
      by_cases h1 : -1342177280 ≤ a.v
      · by_cases h2 : a.v ≤ 1342177280
        · have h3 : ¬ a.v < -1342177280 := by omega
          have h4 : ¬ 1342177280 < a.v := by omega
          obtain ⟨s0a, s0b⟩ := sq_cap ⟨h1, h2⟩
          have e0 : isS a.v b.v c.v d.v 0 = 0 := rfl
          rw [e0]
          have e1 : IntKind.i64.wrap a.v = a.v := by rw [IntKind.wrap_i64]; omega
          have e2 : IntKind.i64.wrap (a.v * a.v) = a.v * a.v := by rw [IntKind.wrap_i64]; omega
          have e3 : IntKind.i64.wrap (0 + a.v * a.v) = 0 + a.v * a.v := by rw [IntKind.wrap_i64]; omega
          have E3 := hide (show isS a.v b.v c.v d.v 1 = 0 + a.v * a.v from (Int.zero_add _).symm)
          clear s0a s0b e0
          go_wp2_with fail
          go_quiet (fail)
          clear e1 e2 e3
          go_wp2
          go_roundw
          case rel => exact ⟨1, by omega, by go_num, by rw [E3.out, Int.zero_add], HK.out.drewN _, fun _ => ⟨h1, h2⟩, by omega, by omega, by omega⟩
          case measure => simp [intOf]
        · have h4 : 1342177280 < a.v := by omega
          have h3 : ¬ a.v < -1342177280 := by omega
          clear h1 h2
          have hB : isB a b c d = false := isB_no (fun h => by have := h.1; omega)
          have HB := hide hB
          clear hB
          go_wp2
          go_ret
          exact ⟨by rw [HB.out]; rfl, HC.out.trans HK.out (D := []) (by simp)⟩
      · have h3 : a.v < -1342177280 := by omega
        clear h1
        have hB : isB a b c d = false := isB_no (fun h => by have := h.1; omega)
        have HB := hide hB
        clear hB
        go_wp2
        go_ret
        exact ⟨by rw [HB.out]; rfl, HC.out.trans HK.out (D := []) (by simp)⟩
    · replace HK : Hid (Chg w5 wr []) := HK
      by_cases h1 : -1342177280 ≤ b.v
      · by_cases h2 : b.v ≤ 1342177280
        · have h3 : ¬ b.v < -1342177280 := by omega
          have h4 : ¬ 1342177280 < b.v := by omega
          obtain ⟨s0a, s0b⟩ := sq_cap (R1.out (by omega))
          obtain ⟨s1a, s1b⟩ := sq_cap ⟨h1, h2⟩
          have e0 : isS a.v b.v c.v d.v 1 = a.v * a.v := rfl
          rw [e0]
          have e1 : IntKind.i64.wrap b.v = b.v := by rw [IntKind.wrap_i64]; omega
          have e2 : IntKind.i64.wrap (b.v * b.v) = b.v * b.v := by rw [IntKind.wrap_i64]; omega
          have e3 : IntKind.i64.wrap (a.v * a.v + b.v * b.v) = a.v * a.v + b.v * b.v := by rw [IntKind.wrap_i64]; omega
          have E3 := hide (show isS a.v b.v c.v d.v 2 = a.v * a.v + b.v * b.v from rfl)
          clear s0a s0b s1a s1b e0
          go_wp2_with fail
          go_quiet (fail)
          clear e1 e2 e3
          go_wp2
          go_roundw
          case rel => exact ⟨2, by omega, by go_num, by rw [E3.out], HK.out.drewN _, fun _ => R1.out (by omega), fun _ => ⟨h1, h2⟩, by omega, by omega⟩
          case measure => simp [intOf]
        · have h4 : 1342177280 < b.v := by omega
          have h3 : ¬ b.v < -1342177280 := by omega
          clear h1 h2
          have hB : isB a b c d = false := isB_no (fun h => by have := h.2.1; omega)
          have HB := hide hB
          clear hB
          go_wp2
          go_ret
          exact ⟨by rw [HB.out]; rfl, HC.out.trans HK.out (D := []) (by simp)⟩
      · have h3 : b.v < -1342177280 := by omega
        clear h1
        have hB : isB a b c d = false := isB_no (fun h => by have := h.2.1; omega)
        have HB := hide hB
        clear hB
        go_wp2
        go_ret
        exact ⟨by rw [HB.out]; rfl, HC.out.trans HK.out (D := []) (by simp)⟩
    · replace HK : Hid (Chg w5 wr []) := HK
      by_cases h1 : -1342177280 ≤ c.v
      · by_cases h2 : c.v ≤ 1342177280
        · have h3 : ¬ c.v < -1342177280 := by omega
          have h4 : ¬ 1342177280 < c.v := by omega
          obtain ⟨s0a, s0b⟩ := sq_cap (R1.out (by omega))
          obtain ⟨s1a, s1b⟩ := sq_cap (R2.out (by omega))
          obtain ⟨s2a, s2b⟩ := sq_cap ⟨h1, h2⟩
          have e0 : isS a.v b.v c.v d.v 2 = a.v * a.v + b.v * b.v := rfl
          rw [e0]
          have e1 : IntKind.i64.wrap c.v = c.v := by rw [IntKind.wrap_i64]; omega
          have e2 : IntKind.i64.wrap (c.v * c.v) = c.v * c.v := by rw [IntKind.wrap_i64]; omega
          have e3 : IntKind.i64.wrap (a.v * a.v + b.v * b.v + c.v * c.v) = a.v * a.v + b.v * b.v + c.v * c.v := by rw [IntKind.wrap_i64]; omega
          have E3 := hide (show isS a.v b.v c.v d.v 3 = a.v * a.v + b.v * b.v + c.v * c.v from rfl)
          clear s0a s0b s1a s1b s2a s2b e0
          go_wp2_with fail
          go_quiet (fail)
          clear e1 e2 e3
          go_wp2
          go_roundw
          case rel => exact ⟨3, by omega, by go_num, by rw [E3.out], HK.out.drewN _, fun _ => R1.out (by omega), fun _ => R2.out (by omega), fun _ => ⟨h1, h2⟩, by omega⟩
          case measure => simp [intOf]
        · have h4 : 1342177280 < c.v := by omega
          have h3 : ¬ c.v < -1342177280 := by omega
          clear h1 h2
          have hB : isB a b c d = false := isB_no (fun h => by have := h.2.2.1; omega)
          have HB := hide hB
          clear hB
          go_wp2
          go_ret
          exact ⟨by rw [HB.out]; rfl, HC.out.trans HK.out (D := []) (by simp)⟩
      · have h3 : c.v < -1342177280 := by omega
        clear h1
        have hB : isB a b c d = false := isB_no (fun h => by have := h.2.2.1; omega)
        have HB := hide hB
        clear hB
        go_wp2
        go_ret
        exact ⟨by rw [HB.out]; rfl, HC.out.trans HK.out (D := []) (by simp)⟩
    · replace HK : Hid (Chg w5 wr []) := HK
      by_cases h1 : -1342177280 ≤ d.v
      · by_cases h2 : d.v ≤ 1342177280
        · have h3 : ¬ d.v < -1342177280 := by omega
          have h4 : ¬ 1342177280 < d.v := by omega
          obtain ⟨s0a, s0b⟩ := sq_cap (R1.out (by omega))
          obtain ⟨s1a, s1b⟩ := sq_cap (R2.out (by omega))
          obtain ⟨s2a, s2b⟩ := sq_cap (R3.out (by omega))
          obtain ⟨s3a, s3b⟩ := sq_cap ⟨h1, h2⟩
          have e0 : isS a.v b.v c.v d.v 3 = a.v * a.v + b.v * b.v + c.v * c.v := rfl
          rw [e0]
          have e1 : IntKind.i64.wrap d.v = d.v := by rw [IntKind.wrap_i64]; omega
          have e2 : IntKind.i64.wrap (d.v * d.v) = d.v * d.v := by rw [IntKind.wrap_i64]; omega
          have e3 : IntKind.i64.wrap (a.v * a.v + b.v * b.v + c.v * c.v + d.v * d.v) = a.v * a.v + b.v * b.v + c.v * c.v + d.v * d.v := by rw [IntKind.wrap_i64]; omega
          have E3 := hide (show isS a.v b.v c.v d.v 4 = a.v * a.v + b.v * b.v + c.v * c.v + d.v * d.v from rfl)
          clear s0a s0b s1a s1b s2a s2b s3a s3b e0
          go_wp2_with fail
          go_quiet (fail)
          clear e1 e2 e3
          go_wp2
          go_roundw
          case rel => exact ⟨4, by omega, by go_num, by rw [E3.out], HK.out.drewN _, fun _ => R1.out (by omega), fun _ => R2.out (by omega), fun _ => R3.out (by omega), fun _ => ⟨h1, h2⟩⟩
          case measure => simp [intOf]
        · have h4 : 1342177280 < d.v := by omega
          have h3 : ¬ d.v < -1342177280 := by omega
          clear h1 h2
          have hB : isB a b c d = false := isB_no (fun h => by have := h.2.2.2.1; omega)
          have HB := hide hB
          clear hB
          go_wp2
          go_ret
          exact ⟨by rw [HB.out]; rfl, HC.out.trans HK.out (D := []) (by simp)⟩
      · have h3 : d.v < -1342177280 := by omega
        clear h1
        have hB : isB a b c d = false := isB_no (fun h => by have := h.2.2.2.1; omega)
        have HB := hide hB
        clear hB
        go_wp2
        go_ret
        exact ⟨by rw [HB.out]; rfl, HC.out.trans HK.out (D := []) (by simp)⟩
    · have r1 := R1.out (by omega)
      have r2 := R2.out (by omega)
      have r3 := R3.out (by omega)
      have r4 := R4.out (by omega)
      obtain ⟨s0a, s0b⟩ := sq_cap r1
      obtain ⟨s1a, s1b⟩ := sq_cap r2
      obtain ⟨s2a, s2b⟩ := sq_cap r3
      obtain ⟨s3a, s3b⟩ := sq_cap r4
      have e0 : isS a.v b.v c.v d.v 4 = a.v * a.v + b.v * b.v + c.v * c.v + d.v * d.v := rfl
      rw [e0]
      have hiff : isB a b c d = (decide (a.v * a.v + b.v * b.v + c.v * c.v + d.v * d.v - 1152921504606846976 < 68719476736) && decide (-68719476736 < a.v * a.v + b.v * b.v + c.v * c.v + d.v * d.v - 1152921504606846976)) := by
        unfold isB IsQ
        simp only [r1, r2, r3, r4, and_self, true_and, Bool.decide_and]
      have HB := hide hiff
      have e3 : IntKind.i64.wrap (a.v * a.v + b.v * b.v + c.v * c.v + d.v * d.v - 1152921504606846976) = a.v * a.v + b.v * b.v + c.v * c.v + d.v * d.v - 1152921504606846976 := by rw [IntKind.wrap_i64]; omega
      have b0 : 0 ≤ a.v * a.v + b.v * b.v + c.v * c.v + d.v * d.v := by omega
      have b1 : a.v * a.v + b.v * b.v + c.v * c.v + d.v * d.v ≤ 7205759403792793600 := by omega
      clear hiff e0 R1 R2 R3 R4 r1 r2 r3 r4 s0a s0b s1a s1b s2a s2b s3a s3b
      generalize a.v * a.v + b.v * b.v + c.v * c.v + d.v * d.v = N at *
      by_cases h1 : N - 1152921504606846976 < 68719476736
      · by_cases h2 : -68719476736 < N - 1152921504606846976
        · rw [decide_eq_true h1, decide_eq_true h2] at HB
          go_wp2
          go_ret
          exact ⟨by rw [HB.out]; rfl, HC.out.trans HK.out (D := []) (by simp)⟩
        · rw [decide_eq_true h1, decide_eq_false h2] at HB
          go_wp2
          go_ret
          exact ⟨by rw [HB.out]; rfl, HC.out.trans HK.out (D := []) (by simp)⟩
      · rw [decide_eq_false h1] at HB
        go_wp2
        go_ret
        exact ⟨by rw [HB.out]; rfl, HC.out.trans HK.out (D := []) (by simp)⟩
end Go.Proofs.YtihgijhjhmjolaaGreatDoor
