/- How near to 1 by its root what Root reckons comes. -/
import Derived.Test.YtbmfcedndbgpoaaGreatNewton
import Derived.Test.YtbmfcedndbgpoaaGreatWorks7
namespace Go.Proofs.YtbmfcedndbgpoaaGreat
set_option linter.unusedVariables false
/-- A product, rounded, that is not cut. -/
theorem mulq_is {a b : Wd} (h : -2305843008139952128 ≤ a.v * b.v ∧ a.v * b.v ≤ 2305843008139952128) : (mulqW a b).v = (a.v * b.v + 536870912) / 1073741824 := by
  show satI (a.v * b.v / 1073741824 + a.v * b.v / 536870912 % 2) = _
  generalize a.v * b.v = p at *
  unfold satI
  omega
theorem up2_is {a : Wd} (h : -536870912 ≤ a.v ∧ a.v ≤ 536870911) : (upW a 2).v = 4 * a.v := by
  show Go.RowKit.wrap32 (a.v % 4294967296 * 2 ^ sh 2 % 4294967296) = _
  have : sh 2 = 2 := by decide +kernel
  rw [this]
  unfold Go.RowKit.wrap32
  omega
theorem down1_is {a : Wd} : (downW a 1).v = a.v / 2 := by
  show a.v / 2 ^ sh 1 = _
  have : sh 1 = 1 := by decide +kernel
  rw [this]
  rfl
theorem subs_is {a b : Wd} (h : -2147483648 ≤ a.v - b.v ∧ a.v - b.v ≤ 2147483647) : (subsW a b).v = a.v - b.v := by
  show satI (a.v - b.v) = _
  unfold satI; omega
theorem adds_is {a b : Wd} (h : -2147483648 ≤ a.v + b.v ∧ a.v + b.v ≤ 2147483647) : (addsW a b).v = a.v + b.v := by
  show satI (a.v + b.v) = _
  unfold satI; omega
/-- How far 4uy² is from N³. -/
def dist (u y : Wd) : Int := 4 * (u.v * (y.v * y.v)) - 1237940039285380274899124224
/-- A step, in plain numbers. -/
theorem step_is {u y : Wd} (hu : 0 ≤ u.v ∧ u.v ≤ 1073741824) (hy : 0 ≤ y.v ∧ 5 * y.v ≤ 6 * 1073741824) (hd : -(2 * 1237940039285380274899124224) ≤ 5 * dist u y ∧ 5 * dist u y ≤ 2 * 1237940039285380274899124224) :
    ∃ yy w e ye hf : Int, -1073741824 ≤ 2 * (1073741824 * yy - y.v * y.v) ∧ 2 * (1073741824 * yy - y.v * y.v) ≤ 1073741824 ∧
      -1073741824 ≤ 2 * (1073741824 * w - u.v * yy) ∧ 2 * (1073741824 * w - u.v * yy) ≤ 1073741824 ∧ e = 1073741824 - 4 * w ∧
      -1073741824 ≤ 2 * (1073741824 * ye - y.v * e) ∧ 2 * (1073741824 * ye - y.v * e) ≤ 1073741824 ∧ 2 * hf ≤ ye ∧ ye ≤ 2 * hf + 1 ∧ (rootStep u y).v = y.v + hf := by
  have b1 := mul_bd (a := y.v) (b := y.v) (A := 1288490188) (B := 1288490188) (by omega) (by omega)
  have n1 : 0 ≤ y.v * y.v := Int.mul_nonneg hy.1 hy.1
  have m1 : (mulqW y y).v = (y.v * y.v + 536870912) / 1073741824 := mulq_is (by omega)
  have b2 := mul_bd (a := u.v) (b := (mulqW y y).v) (A := 1073741824) (B := 1546188227) (by omega) (by omega)
  have m2 : (mulqW u (mulqW y y)).v = (u.v * (mulqW y y).v + 536870912) / 1073741824 := mulq_is (by omega)
  have hw : 0 ≤ (mulqW u (mulqW y y)).v ∧ (mulqW u (mulqW y y)).v ≤ 536870911 := by
    have n2 : 0 ≤ u.v * (mulqW y y).v := Int.mul_nonneg hu.1 (by omega)
    have l1 := Int.mul_le_mul_of_nonneg_left (show 1073741824 * (mulqW y y).v ≤ y.v * y.v + 536870912 by omega) hu.1
    have e1 : u.v * (1073741824 * (mulqW y y).v) = 1073741824 * (u.v * (mulqW y y).v) := by grind
    have e2 : u.v * (y.v * y.v + 536870912) = u.v * (y.v * y.v) + 536870912 * u.v := by grind
    rw [e1, e2] at l1
    unfold dist at hd
    omega
  have m3 : (upW (mulqW u (mulqW y y)) 2).v = 4 * (mulqW u (mulqW y y)).v := up2_is (by omega)
  have k1 : (kW 1073741824).v = 1073741824 := kW_v (by decide)
  have m4 : (subsW (kW 1073741824) (upW (mulqW u (mulqW y y)) 2)).v = 1073741824 - 4 * (mulqW u (mulqW y y)).v := by
    rw [subs_is (by rw [k1, m3]; omega), k1, m3]
  have b3 := mul_bd (a := y.v) (b := (subsW (kW 1073741824) (upW (mulqW u (mulqW y y)) 2)).v) (A := 1288490188) (B := 1073741824) (by omega) (by omega)
  have m5 : (mulqW y (subsW (kW 1073741824) (upW (mulqW u (mulqW y y)) 2))).v = (y.v * (subsW (kW 1073741824) (upW (mulqW u (mulqW y y)) 2)).v + 536870912) / 1073741824 := mulq_is (by omega)
  have m6 : (downW (mulqW y (subsW (kW 1073741824) (upW (mulqW u (mulqW y y)) 2))) 1).v = (mulqW y (subsW (kW 1073741824) (upW (mulqW u (mulqW y y)) 2))).v / 2 := down1_is
  refine ⟨(mulqW y y).v, (mulqW u (mulqW y y)).v, _, (mulqW y (subsW (kW 1073741824) (upW (mulqW u (mulqW y y)) 2))).v, (downW (mulqW y (subsW (kW 1073741824) (upW (mulqW u (mulqW y y)) 2))) 1).v, ?_, ?_, ?_, ?_, m4, ?_, ?_, ?_, ?_, ?_⟩
  · omega
  · omega
  · omega
  · omega
  · omega
  · omega
  · omega
  · omega
  · exact adds_is (by omega)
/-- A step's bound. -/
theorem step_dist {u y : Wd} {d d' : Int} (hu : 0 ≤ u.v ∧ u.v ≤ 1073741824) (hy : 0 ≤ y.v ∧ 5 * y.v ≤ 6 * 1073741824) (hd5 : 5 * d ≤ 2 * 1237940039285380274899124224) (hd : -d ≤ dist u y ∧ dist u y ≤ d)
    (hd' : 3 * 1237940039285380274899124224 * (d * d) + d * d * d + 168 * 1237940039285380274899124224 * 1237940039285380274899124224 * 1152921504606846976 ≤ 4 * 1237940039285380274899124224 * 1237940039285380274899124224 * d') :
    -d' ≤ dist u (rootStep u y) ∧ dist u (rootStep u y) ≤ d' := by
  obtain ⟨yy, w, e, ye, hf, a1, a2, b1, b2, he, c1, c2, d1, d2, hz⟩ := step_is hu hy (by omega)
  obtain ⟨F, f1, f2, f3⟩ := newton (u := u.v) (y := y.v) (yy := yy) (w := w) (e := e) (ye := ye) (hf := hf) (z := (rootStep u y).v) (D := dist u y) (N := 1073741824) rfl hu hy ⟨a1, a2⟩ ⟨b1, b2⟩ he ⟨c1, c2⟩ ⟨d1, d2⟩ hz rfl
  obtain ⟨G, g1, g2, g3⟩ := newton_D (u := u.v) (y := y.v) (z := (rootStep u y).v) (D := dist u y) (D' := dist u (rootStep u y)) (F := F) (N := 1073741824) rfl hu hy rfl rfl f1 f2 f3 (by omega)
  exact step_bd (G := G) (Q := 168 * 1237940039285380274899124224 * 1237940039285380274899124224 * 1152921504606846976) rfl rfl g1 hd ⟨g2, g3⟩ hd'
/-- The lowest and the highest first guess for u's upper bits q, and their squares times u. -/
def guess (u : Int) : Int := 1184766729 - (715827883 * u + 536870912) / 1073741824
def okQ (q : Nat) : Bool :=
  let lo : Int := q * 16777216
  let hi : Int := q * 16777216 + 16777215
  decide (0 ≤ guess hi) && decide (4 * (4 * (hi * (guess lo * guess lo)) - 1237940039285380274899124224) ≤ 1237940039285380274899124224) && decide (-1237940039285380274899124224 ≤ 4 * (4 * (lo * (guess hi * guess hi)) - 1237940039285380274899124224)) && decide (5 * guess lo ≤ 6 * 1073741824)
theorem guess_mono {a b : Int} (h : a ≤ b) : guess b ≤ guess a := by
  unfold guess
  have := Int.ediv_le_ediv (show (0 : Int) < 1073741824 by decide) (show 715827883 * a + 536870912 ≤ 715827883 * b + 536870912 by omega)
  omega
theorem okQ_parts {q : Nat} (h : okQ q = true) : 0 ≤ guess (q * 16777216 + 16777215) ∧ 4 * (4 * ((q * 16777216 + 16777215 : Int) * (guess (q * 16777216) * guess (q * 16777216))) - 1237940039285380274899124224) ≤ 1237940039285380274899124224 ∧
    -1237940039285380274899124224 ≤ 4 * (4 * ((q * 16777216 : Int) * (guess (q * 16777216 + 16777215) * guess (q * 16777216 + 16777215))) - 1237940039285380274899124224) ∧ 5 * guess (q * 16777216) ≤ 6 * 1073741824 := by
  have h' := Bool.and_eq_true_iff.1 h
  have h'' := Bool.and_eq_true_iff.1 h'.1
  have h3 := Bool.and_eq_true_iff.1 h''.1
  exact ⟨of_decide_eq_true h3.1, of_decide_eq_true h3.2, of_decide_eq_true h''.2, of_decide_eq_true h'.2⟩
theorem okQ_all : ∀ q, q < 64 → 16 ≤ q → okQ q = true := by decide +kernel
theorem start_dist {u : Wd} (hu : 268435456 ≤ u.v ∧ u.v < 1073741824) :
    (0 ≤ (rootZ0 u).v ∧ 5 * (rootZ0 u).v ≤ 6 * 1073741824) ∧ -309485009821345068724781056 ≤ dist u (rootZ0 u) ∧ dist u (rootZ0 u) ≤ 309485009821345068724781056 := by
  have k1 : (kW 715827883).v = 715827883 := kW_v (by decide)
  have k2 : (kW 1184766729).v = 1184766729 := kW_v (by decide)
  have m1 : (mulqW (kW 715827883) u).v = (715827883 * u.v + 536870912) / 1073741824 := by
    rw [mulq_is (by rw [k1]; omega), k1]
  have hz : (rootZ0 u).v = guess u.v := by
    show (subsW (kW 1184766729) (mulqW (kW 715827883) u)).v = _
    rw [subs_is (by rw [k2, m1]; omega), k2, m1]
    rfl
  obtain ⟨q, hq⟩ : ∃ q : Nat, (q : Int) = u.v / 16777216 := ⟨(u.v / 16777216).toNat, by omega⟩
  have q1 : q < 64 := by omega
  have q2 : 16 ≤ q := by omega
  have l1 : (q : Int) * 16777216 ≤ u.v := by omega
  have l2 : u.v ≤ (q : Int) * 16777216 + 16777215 := by omega
  have l3 : 0 ≤ (q : Int) * 16777216 := by omega
  obtain ⟨h0, h1, h2, h3⟩ := okQ_parts (okQ_all q q1 q2)
  have g1 : guess ((q : Int) * 16777216 + 16777215) ≤ guess u.v := guess_mono l2
  have g2 : guess u.v ≤ guess ((q : Int) * 16777216) := guess_mono l1
  clear hq q1 q2 m1
  generalize guess ((q : Int) * 16777216 + 16777215) = G1 at *
  generalize guess ((q : Int) * 16777216) = G2 at *
  generalize guess u.v = G at *
  generalize (q : Int) * 16777216 = A at *
  have z0 : 0 ≤ G := by omega
  rw [hz]
  refine ⟨⟨z0, by omega⟩, ?_⟩
  have s1 : G * G ≤ G2 * G2 := Int.mul_le_mul g2 g2 z0 (by omega)
  have s2 : G1 * G1 ≤ G * G := Int.mul_le_mul g1 g1 h0 z0
  have p1 : u.v * (G * G) ≤ (A + 16777215) * (G2 * G2) := Int.mul_le_mul l2 s1 (Int.mul_nonneg z0 z0) (by omega)
  have p2 : A * (G1 * G1) ≤ u.v * (G * G) := Int.mul_le_mul l1 s2 (Int.mul_nonneg h0 h0) (by omega)
  unfold dist
  rw [hz]
  generalize u.v * (G * G) = X at *
  generalize (A + 16777215) * (G2 * G2) = Y at *
  generalize A * (G1 * G1) = Z at *
  clear s1 s2 g1 g2
  constructor
  · omega
  · omega
end Go.Proofs.YtbmfcedndbgpoaaGreat
