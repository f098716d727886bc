/- Texts of this claim, side by side: RunL, RootLaw, RootLaw2, RootLaw3, GateLaw, UnitLaw, TurnP, TurnI, AngleLaw, AngleLaw2, RootLaw4, UnitLaw2, UnitDef. -/
import Derived.Test.YtbmfcedndbgpoaaGreatRunK
import Derived.Test.YtbmfcedndbgpoaaGreatTurned
import Derived.Test.YtbmfcedndbgpoaaGreatIs
import Derived.Test.YtbmfcedndbgpoaaGreatNewton
import Derived.Test.YtbmfcedndbgpoaaGreatWorks7
import Derived.Test.YtbmfcedndbgpoaaGreatStill
import Derived.Test.YtbmfcedndbgpoaaGreatBitLaw
import Derived.Test.YtbmfcedndbgpoaaGreatWorks10b
import Derived.Test.YtbmfcedndbgpoaaGreatWdef
/- EulerYaw, EulerRoll, as runs. -/
namespace Go.Proofs.YtbmfcedndbgpoaaGreat.Xi
open Go Go.RowKit
set_option linter.unusedVariables false
theorem turnedI_64 {x : Int} (h : -9223372036854775808 ≤ x ∧ x ≤ 9223372036854775807) : -9223372036854775808 ≤ turnedI x ∧ turnedI x ≤ 9223372036854775807 := by
  unfold turnedI
  split
  · omega
  · split <;> omega
noncomputable def turnedE : Ent := entG1 27 (fun x => .int .i64 (turnedI x)) (fun x hx => ⟨goodC_64 (turnedI_64 hx), fun w => (turned_calls x hx w).mono fun e w' ⟨he, hw⟩ => ⟨he, hw ▸ Chg.refl w []⟩⟩)
def yL (b : Bool) : List (FuncId × AV) := [(25, .lit (.bool b)), (26, .lit (.bool true)), (24, .lit (.bool true))]
def yS : List (FuncId × Sh) := [(22, .agg 4), (28, .one), (27, .one)]
noncomputable def yT : List Ent := [gOfE, angleE, turnedE]
def nearO (x : Int) : Ob := .call 26 [.int .i64 x] (.bool true)
def isO (a b c d : Int) (r : Bool) : Ob := .call 25 [.agg #[.int .i32 a, .int .i32 b, .int .i32 c, .int .i32 d]] (.bool r)
def awO : Ob := .call 24 [] (.bool true)
def notO (l : Bool) : Ob := .test (.un .not) [.bool l] (.bool true)
def yawA (c s : Wd) : T3 := anglesW (kW c.v) (kW 0) (kW 0) (kW s.v)
def rollA (c s : Wd) : T3 := anglesW (kW c.v) (kW s.v) (kW 0) (kW 0)
def far2 (a t : Int) : Int := turnedI (IntKind.i64.wrap (IntKind.i64.wrap a - IntKind.i64.wrap (2 * IntKind.i64.wrap t)))
set_option maxRecDepth 100000 in
theorem yaw_run0 (c s : Wd) : runP (cxR (yL false) yS []) (tabOf yT) 200 5 [.opq 0, .opq 1] [.int .i32 c.v, .int .i32 s.v] = some (.bool true, [awO, isO c.v 0 0 s.v false]) := by kernel_rfl
set_option maxRecDepth 100000 in
theorem yaw_run1 (c s : Wd) : runP (cxR (yL true) yS [(14, true)]) (tabOf yT) 200 5 [.opq 0, .opq 1] [.int .i32 c.v, .int .i32 s.v] =
    some (.bool true, [awO, notO (lockB (kW c.v) (kW 0) (kW 0) (kW s.v)), nearO (IntKind.i64.wrap (yawA c s).b.v), nearO (IntKind.i64.wrap (yawA c s).a.v), nearO (far2 (yawA c s).c.v (angleW (kW s.v) (kW c.v)).v), isO c.v 0 0 s.v true]) := by kernel_rfl
set_option maxRecDepth 100000 in
theorem roll_run0 (c s : Wd) : runP (cxR (yL false) yS []) (tabOf yT) 200 6 [.opq 0, .opq 1] [.int .i32 c.v, .int .i32 s.v] = some (.bool true, [awO, isO c.v s.v 0 0 false]) := by kernel_rfl
set_option maxRecDepth 100000 in
theorem roll_run1 (c s : Wd) : runP (cxR (yL true) yS [(14, true)]) (tabOf yT) 200 6 [.opq 0, .opq 1] [.int .i32 c.v, .int .i32 s.v] =
    some (.bool true, [awO, notO (lockB (kW c.v) (kW s.v) (kW 0) (kW 0)), nearO (IntKind.i64.wrap (rollA c s).b.v), nearO (IntKind.i64.wrap (rollA c s).c.v), nearO (far2 (rollA c s).a.v (angleW (kW s.v) (kW c.v)).v), isO c.v s.v 0 0 true]) := by kernel_rfl
end Go.Proofs.YtbmfcedndbgpoaaGreat.Xi

/- How near to 1 by its root what Root reckons comes. -/
namespace Go.Proofs.YtbmfcedndbgpoaaGreat
set_option linter.unusedVariables false
/-- A product, rounded, that is not cut. -/
theorem mulq_is {a b : Wd} (h : -2305843008139952128 ≤ a.v * b.v ∧ a.v * b.v ≤ 2305843008139952128) : (mulqW a b).v = (a.v * b.v + 536870912) / 1073741824 := by
  show satI (a.v * b.v / 1073741824 + a.v * b.v / 536870912 % 2) = _
  generalize a.v * b.v = p at *
  unfold satI
  omega
theorem up2_is {a : Wd} (h : -536870912 ≤ a.v ∧ a.v ≤ 536870911) : (upW a 2).v = 4 * a.v := by
  show Go.RowKit.wrap32 (a.v % 4294967296 * 2 ^ sh 2 % 4294967296) = _
  have : sh 2 = 2 := by decide +kernel
  rw [this]
  unfold Go.RowKit.wrap32
  omega
theorem down1_is {a : Wd} : (downW a 1).v = a.v / 2 := by
  show a.v / 2 ^ sh 1 = _
  have : sh 1 = 1 := by decide +kernel
  rw [this]
  rfl
theorem subs_is {a b : Wd} (h : -2147483648 ≤ a.v - b.v ∧ a.v - b.v ≤ 2147483647) : (subsW a b).v = a.v - b.v := by
  show satI (a.v - b.v) = _
  unfold satI; omega
theorem adds_is {a b : Wd} (h : -2147483648 ≤ a.v + b.v ∧ a.v + b.v ≤ 2147483647) : (addsW a b).v = a.v + b.v := by
  show satI (a.v + b.v) = _
  unfold satI; omega
/-- How far 4uy² is from N³. -/
def dist (u y : Wd) : Int := 4 * (u.v * (y.v * y.v)) - 1237940039285380274899124224
/-- A step, in plain numbers. -/
theorem step_is {u y : Wd} (hu : 0 ≤ u.v ∧ u.v ≤ 1073741824) (hy : 0 ≤ y.v ∧ 5 * y.v ≤ 6 * 1073741824) (hd : -(2 * 1237940039285380274899124224) ≤ 5 * dist u y ∧ 5 * dist u y ≤ 2 * 1237940039285380274899124224) :
    ∃ yy w e ye hf : Int, -1073741824 ≤ 2 * (1073741824 * yy - y.v * y.v) ∧ 2 * (1073741824 * yy - y.v * y.v) ≤ 1073741824 ∧
      -1073741824 ≤ 2 * (1073741824 * w - u.v * yy) ∧ 2 * (1073741824 * w - u.v * yy) ≤ 1073741824 ∧ e = 1073741824 - 4 * w ∧
      -1073741824 ≤ 2 * (1073741824 * ye - y.v * e) ∧ 2 * (1073741824 * ye - y.v * e) ≤ 1073741824 ∧ 2 * hf ≤ ye ∧ ye ≤ 2 * hf + 1 ∧ (rootStep u y).v = y.v + hf := by
  have b1 := mul_bd (a := y.v) (b := y.v) (A := 1288490188) (B := 1288490188) (by omega) (by omega)
  have n1 : 0 ≤ y.v * y.v := Int.mul_nonneg hy.1 hy.1
  have m1 : (mulqW y y).v = (y.v * y.v + 536870912) / 1073741824 := mulq_is (by omega)
  have b2 := mul_bd (a := u.v) (b := (mulqW y y).v) (A := 1073741824) (B := 1546188227) (by omega) (by omega)
  have m2 : (mulqW u (mulqW y y)).v = (u.v * (mulqW y y).v + 536870912) / 1073741824 := mulq_is (by omega)
  have hw : 0 ≤ (mulqW u (mulqW y y)).v ∧ (mulqW u (mulqW y y)).v ≤ 536870911 := by
    have n2 : 0 ≤ u.v * (mulqW y y).v := Int.mul_nonneg hu.1 (by omega)
    have l1 := Int.mul_le_mul_of_nonneg_left (show 1073741824 * (mulqW y y).v ≤ y.v * y.v + 536870912 by omega) hu.1
    have e1 : u.v * (1073741824 * (mulqW y y).v) = 1073741824 * (u.v * (mulqW y y).v) := by grind
    have e2 : u.v * (y.v * y.v + 536870912) = u.v * (y.v * y.v) + 536870912 * u.v := by grind
    rw [e1, e2] at l1
    unfold dist at hd
    omega
  have m3 : (upW (mulqW u (mulqW y y)) 2).v = 4 * (mulqW u (mulqW y y)).v := up2_is (by omega)
  have k1 : (kW 1073741824).v = 1073741824 := kW_v (by decide)
  have m4 : (subsW (kW 1073741824) (upW (mulqW u (mulqW y y)) 2)).v = 1073741824 - 4 * (mulqW u (mulqW y y)).v := by
    rw [subs_is (by rw [k1, m3]; omega), k1, m3]
  have b3 := mul_bd (a := y.v) (b := (subsW (kW 1073741824) (upW (mulqW u (mulqW y y)) 2)).v) (A := 1288490188) (B := 1073741824) (by omega) (by omega)
  have m5 : (mulqW y (subsW (kW 1073741824) (upW (mulqW u (mulqW y y)) 2))).v = (y.v * (subsW (kW 1073741824) (upW (mulqW u (mulqW y y)) 2)).v + 536870912) / 1073741824 := mulq_is (by omega)
  have m6 : (downW (mulqW y (subsW (kW 1073741824) (upW (mulqW u (mulqW y y)) 2))) 1).v = (mulqW y (subsW (kW 1073741824) (upW (mulqW u (mulqW y y)) 2))).v / 2 := down1_is
  refine ⟨(mulqW y y).v, (mulqW u (mulqW y y)).v, _, (mulqW y (subsW (kW 1073741824) (upW (mulqW u (mulqW y y)) 2))).v, (downW (mulqW y (subsW (kW 1073741824) (upW (mulqW u (mulqW y y)) 2))) 1).v, ?_, ?_, ?_, ?_, m4, ?_, ?_, ?_, ?_, ?_⟩
  · omega
  · omega
  · omega
  · omega
  · omega
  · omega
  · omega
  · omega
  · exact adds_is (by omega)
/-- A step's bound. -/
theorem step_dist {u y : Wd} {d d' : Int} (hu : 0 ≤ u.v ∧ u.v ≤ 1073741824) (hy : 0 ≤ y.v ∧ 5 * y.v ≤ 6 * 1073741824) (hd5 : 5 * d ≤ 2 * 1237940039285380274899124224) (hd : -d ≤ dist u y ∧ dist u y ≤ d)
    (hd' : 3 * 1237940039285380274899124224 * (d * d) + d * d * d + 168 * 1237940039285380274899124224 * 1237940039285380274899124224 * 1152921504606846976 ≤ 4 * 1237940039285380274899124224 * 1237940039285380274899124224 * d') :
    -d' ≤ dist u (rootStep u y) ∧ dist u (rootStep u y) ≤ d' := by
  obtain ⟨yy, w, e, ye, hf, a1, a2, b1, b2, he, c1, c2, d1, d2, hz⟩ := step_is hu hy (by omega)
  obtain ⟨F, f1, f2, f3⟩ := newton (u := u.v) (y := y.v) (yy := yy) (w := w) (e := e) (ye := ye) (hf := hf) (z := (rootStep u y).v) (D := dist u y) (N := 1073741824) rfl hu hy ⟨a1, a2⟩ ⟨b1, b2⟩ he ⟨c1, c2⟩ ⟨d1, d2⟩ hz rfl
  obtain ⟨G, g1, g2, g3⟩ := newton_D (u := u.v) (y := y.v) (z := (rootStep u y).v) (D := dist u y) (D' := dist u (rootStep u y)) (F := F) (N := 1073741824) rfl hu hy rfl rfl f1 f2 f3 (by omega)
  exact step_bd (G := G) (Q := 168 * 1237940039285380274899124224 * 1237940039285380274899124224 * 1152921504606846976) rfl rfl g1 hd ⟨g2, g3⟩ hd'
/-- The lowest and the highest first guess for u's upper bits q, and their squares times u. -/
def guess (u : Int) : Int := 1184766729 - (715827883 * u + 536870912) / 1073741824
def okQ (q : Nat) : Bool :=
  let lo : Int := q * 16777216
  let hi : Int := q * 16777216 + 16777215
  decide (0 ≤ guess hi) && decide (4 * (4 * (hi * (guess lo * guess lo)) - 1237940039285380274899124224) ≤ 1237940039285380274899124224) && decide (-1237940039285380274899124224 ≤ 4 * (4 * (lo * (guess hi * guess hi)) - 1237940039285380274899124224)) && decide (5 * guess lo ≤ 6 * 1073741824)
theorem guess_mono {a b : Int} (h : a ≤ b) : guess b ≤ guess a := by
  unfold guess
  have := Int.ediv_le_ediv (show (0 : Int) < 1073741824 by decide) (show 715827883 * a + 536870912 ≤ 715827883 * b + 536870912 by omega)
  omega
theorem okQ_parts {q : Nat} (h : okQ q = true) : 0 ≤ guess (q * 16777216 + 16777215) ∧ 4 * (4 * ((q * 16777216 + 16777215 : Int) * (guess (q * 16777216) * guess (q * 16777216))) - 1237940039285380274899124224) ≤ 1237940039285380274899124224 ∧
    -1237940039285380274899124224 ≤ 4 * (4 * ((q * 16777216 : Int) * (guess (q * 16777216 + 16777215) * guess (q * 16777216 + 16777215))) - 1237940039285380274899124224) ∧ 5 * guess (q * 16777216) ≤ 6 * 1073741824 := by
  have h' := Bool.and_eq_true_iff.1 h
  have h'' := Bool.and_eq_true_iff.1 h'.1
  have h3 := Bool.and_eq_true_iff.1 h''.1
  exact ⟨of_decide_eq_true h3.1, of_decide_eq_true h3.2, of_decide_eq_true h''.2, of_decide_eq_true h'.2⟩
theorem okQ_all : ∀ q, q < 64 → 16 ≤ q → okQ q = true := by decide +kernel
theorem start_dist {u : Wd} (hu : 268435456 ≤ u.v ∧ u.v < 1073741824) :
    (0 ≤ (rootZ0 u).v ∧ 5 * (rootZ0 u).v ≤ 6 * 1073741824) ∧ -309485009821345068724781056 ≤ dist u (rootZ0 u) ∧ dist u (rootZ0 u) ≤ 309485009821345068724781056 := by
  have k1 : (kW 715827883).v = 715827883 := kW_v (by decide)
  have k2 : (kW 1184766729).v = 1184766729 := kW_v (by decide)
  have m1 : (mulqW (kW 715827883) u).v = (715827883 * u.v + 536870912) / 1073741824 := by
    rw [mulq_is (by rw [k1]; omega), k1]
  have hz : (rootZ0 u).v = guess u.v := by
    show (subsW (kW 1184766729) (mulqW (kW 715827883) u)).v = _
    rw [subs_is (by rw [k2, m1]; omega), k2, m1]
    rfl
  obtain ⟨q, hq⟩ : ∃ q : Nat, (q : Int) = u.v / 16777216 := ⟨(u.v / 16777216).toNat, by omega⟩
  have q1 : q < 64 := by omega
  have q2 : 16 ≤ q := by omega
  have l1 : (q : Int) * 16777216 ≤ u.v := by omega
  have l2 : u.v ≤ (q : Int) * 16777216 + 16777215 := by omega
  have l3 : 0 ≤ (q : Int) * 16777216 := by omega
  obtain ⟨h0, h1, h2, h3⟩ := okQ_parts (okQ_all q q1 q2)
  have g1 : guess ((q : Int) * 16777216 + 16777215) ≤ guess u.v := guess_mono l2
  have g2 : guess u.v ≤ guess ((q : Int) * 16777216) := guess_mono l1
  clear hq q1 q2 m1
  generalize guess ((q : Int) * 16777216 + 16777215) = G1 at *
  generalize guess ((q : Int) * 16777216) = G2 at *
  generalize guess u.v = G at *
  generalize (q : Int) * 16777216 = A at *
  have z0 : 0 ≤ G := by omega
  rw [hz]
  refine ⟨⟨z0, by omega⟩, ?_⟩
  have s1 : G * G ≤ G2 * G2 := Int.mul_le_mul g2 g2 z0 (by omega)
  have s2 : G1 * G1 ≤ G * G := Int.mul_le_mul g1 g1 h0 z0
  have p1 : u.v * (G * G) ≤ (A + 16777215) * (G2 * G2) := Int.mul_le_mul l2 s1 (Int.mul_nonneg z0 z0) (by omega)
  have p2 : A * (G1 * G1) ≤ u.v * (G * G) := Int.mul_le_mul l1 s2 (Int.mul_nonneg h0 h0) (by omega)
  unfold dist
  rw [hz]
  generalize u.v * (G * G) = X at *
  generalize (A + 16777215) * (G2 * G2) = Y at *
  generalize A * (G1 * G1) = Z at *
  clear s1 s2 g1 g2
  constructor
  · omega
  · omega
end Go.Proofs.YtbmfcedndbgpoaaGreat

/- Four steps. -/
namespace Go.Proofs.YtbmfcedndbgpoaaGreat
set_option linter.unusedVariables false
theorem root_range {u y : Wd} (hu : 268435456 ≤ u.v ∧ u.v ≤ 1073741824) (hy : 0 ≤ y.v) (hd : -(2 * 1237940039285380274899124224) ≤ 5 * dist u y ∧ 5 * dist u y ≤ 2 * 1237940039285380274899124224) : 1073741824 ≤ 3 * y.v ∧ 5 * y.v ≤ 6 * 1073741824 := by
  unfold dist at hd
  constructor
  · refine Int.not_lt.1 (fun h => ?_)
    have h1 : y.v * y.v ≤ 357913941 * 357913941 := Int.mul_le_mul (by omega) (by omega) hy (by omega)
    have h2 : u.v * (y.v * y.v) ≤ 1073741824 * (357913941 * 357913941) := Int.mul_le_mul hu.2 h1 (Int.mul_nonneg hy hy) (by omega)
    omega
  · refine Int.not_lt.1 (fun h => ?_)
    have h1 : 1288490188 * 1288490188 ≤ y.v * y.v := Int.mul_le_mul (by omega) (by omega) (by omega) hy
    have h2 : 268435456 * (1288490188 * 1288490188) ≤ u.v * (y.v * y.v) := Int.mul_le_mul hu.1 h1 (by omega) (by omega)
    omega
theorem root_step {u y : Wd} {d d' : Int} (hu : 268435456 ≤ u.v ∧ u.v ≤ 1073741824) (hy : 0 ≤ y.v) (hd5 : 5 * d ≤ 2 * 1237940039285380274899124224) (hd : -d ≤ dist u y ∧ dist u y ≤ d)
    (hd' : 3 * 1237940039285380274899124224 * (d * d) + d * d * d + 168 * 1237940039285380274899124224 * 1237940039285380274899124224 * 1152921504606846976 ≤ 4 * 1237940039285380274899124224 * 1237940039285380274899124224 * d') :
    0 ≤ (rootStep u y).v ∧ -d' ≤ dist u (rootStep u y) ∧ dist u (rootStep u y) ≤ d' := by
  have hr := root_range hu hy (by omega)
  have hu' : 0 ≤ u.v ∧ u.v ≤ 1073741824 := by omega
  refine ⟨?_, step_dist hu' ⟨hy, hr.2⟩ hd5 hd hd'⟩
  obtain ⟨yy, w, e, ye, hf, a1, a2, b1, b2, he, c1, c2, d1, d2, hz⟩ := step_is hu' ⟨hy, hr.2⟩ (by omega)
  obtain ⟨F, f1, f2, f3⟩ := newton (u := u.v) (y := y.v) (yy := yy) (w := w) (e := e) (ye := ye) (hf := hf) (z := (rootStep u y).v) (D := dist u y) (N := 1073741824) rfl hu' ⟨hy, hr.2⟩ ⟨a1, a2⟩ ⟨b1, b2⟩ he ⟨c1, c2⟩ ⟨d1, d2⟩ hz rfl
  have p : 357913941 * 1237940039285380274899124224 ≤ y.v * (2 * (1073741824 * 1073741824 * 1073741824) - dist u y) := Int.mul_le_mul (by omega) (by omega) (by omega) hy
  clear a1 a2 b1 b2 c1 c2 d1 d2 hz he
  generalize y.v * (2 * (1073741824 * 1073741824 * 1073741824) - dist u y) = P at *
  omega
theorem rootZ_dist {u : Wd} (hu : 268435456 ≤ u.v ∧ u.v < 1073741824) :
    1073741824 ≤ 3 * (rootZ u 4).v ∧ 5 * (rootZ u 4).v ≤ 6 * 1073741824 ∧ -48430741160944183193 ≤ dist u (rootZ u 4) ∧ dist u (rootZ u 4) ≤ 48430741160944183193 := by
  have hu2 : 268435456 ≤ u.v ∧ u.v ≤ 1073741824 := by omega
  obtain ⟨⟨y0, _⟩, a0⟩ := start_dist hu
  obtain ⟨y1, a1⟩ := root_step (u := u) (y := rootZ u 0) (d := 309485009821345068724781056) (d' := 62864191042663910572294144) hu2 y0 (by decide) a0 (by decide)
  obtain ⟨y2, a2⟩ := root_step (u := u) (y := rootZ u 1) (d := 62864191042663910572294144) (d' := 2434819508349633417988186) hu2 y1 (by decide) a1 (by decide)
  obtain ⟨y3, a3⟩ := root_step (u := u) (y := rootZ u 2) (d := 2434819508349633417988186) (d' := 3642437277383759613889) hu2 y2 (by decide) a2 (by decide)
  obtain ⟨y4, a4⟩ := root_step (u := u) (y := rootZ u 3) (d := 3642437277383759613889) (d' := 48430741160944183193) hu2 y3 (by decide) a3 (by decide)
  have hr := root_range hu2 y4 (by omega)
  exact ⟨hr.1, hr.2, a4⟩
end Go.Proofs.YtbmfcedndbgpoaaGreat

/- The root of a word. -/
namespace Go.Proofs.YtbmfcedndbgpoaaGreat
open Go.RowKit Go.Deep
set_option linter.unusedVariables false
theorem clz_of {x : Wd} (k P : Nat) (hk : k ≤ 30) (hP : P = 2 ^ k) (h0 : (P : Int) ≤ x.v) (h1 : x.v < 2 * (P : Int)) : clzI x.v = 31 - (k : Int) := by
  have ok := x.ok
  unfold In32 at ok
  have pp : 0 < P := by rw [hP]; exact Nat.pow_pos (by decide)
  unfold clzI
  rw [show x.v % 4294967296 = x.v by omega]
  rw [Lib.bitLen_shift k x.v.toNat (by rw [← hP]; omega) (by omega)]
  have e : x.v.toNat / 2 ^ k = 1 := by
    rw [← hP]
    exact Nat.div_eq_of_lt_le (by omega) (by omega)
  rw [e, show Lib.bitLen 1 = 1 by decide +kernel]
  omega
theorem u_of {x : Wd} {t : Int} {T : Int} (n : Nat) (ht : rootT x = kW t) (hs : sh (kW t).v = n) (hT : (2 : Int) ^ n = 4 * T) (h0 : 0 ≤ x.v) (h1 : x.v * (4 * T) < 4294967296) : (rootU x).v = x.v * T := by
  show shrI (shlI x.v (rootT x).v) (kW 2).v = _
  rw [ht]
  unfold shrI shlI
  rw [hs, hT, show sh (kW 2).v = 2 by decide +kernel, show ((2 : Int) ^ 2) = 4 by decide]
  have ok := x.ok
  unfold In32 at ok
  rw [show x.v % 4294967296 = x.v by omega]
  have e : x.v * (4 * T) = 4 * (x.v * T) := by rw [Int.mul_left_comm]
  have q0 : 0 ≤ T := by
    have : (0 : Int) < 2 ^ n := Int.pow_pos (by decide)
    omega
  have q : 0 ≤ x.v * T := Int.mul_nonneg h0 q0
  rw [e] at h1 ⊢
  generalize x.v * T = y at *
  unfold wrap32
  omega
theorem root_1 {x : Wd} (l : 268435456 ≤ x.v) (r : x.v < 1073741824) : (rootU x).v = x.v * 1 ∧ (rootW x).2.v = 1 := by
  have ht : rootT x = kW 2 := by
    apply Wd.ext_
    show andI (clzI x.v) (kW 30).v = (kW 2).v
    by_cases c : x.v < 536870912
    · rw [clz_of 28 268435456 (by decide) (by decide) l (by omega)]; decide +kernel
    · rw [clz_of 29 536870912 (by decide) (by decide) (by omega) (by omega)]; decide +kernel
  refine ⟨u_of 2 ht (by decide +kernel) (by decide) (by omega) (by omega), ?_⟩
  show shrI (rootT x).v (kW 1).v = _
  rw [ht]
  decide +kernel
theorem root_2 {x : Wd} (l : 67108864 ≤ x.v) (r : x.v < 268435456) : (rootU x).v = x.v * 4 ∧ (rootW x).2.v = 2 := by
  have ht : rootT x = kW 4 := by
    apply Wd.ext_
    show andI (clzI x.v) (kW 30).v = (kW 4).v
    by_cases c : x.v < 134217728
    · rw [clz_of 26 67108864 (by decide) (by decide) l (by omega)]; decide +kernel
    · rw [clz_of 27 134217728 (by decide) (by decide) (by omega) (by omega)]; decide +kernel
  refine ⟨u_of 4 ht (by decide +kernel) (by decide) (by omega) (by omega), ?_⟩
  show shrI (rootT x).v (kW 1).v = _
  rw [ht]
  decide +kernel
theorem root_3 {x : Wd} (l : 16777216 ≤ x.v) (r : x.v < 67108864) : (rootU x).v = x.v * 16 ∧ (rootW x).2.v = 3 := by
  have ht : rootT x = kW 6 := by
    apply Wd.ext_
    show andI (clzI x.v) (kW 30).v = (kW 6).v
    by_cases c : x.v < 33554432
    · rw [clz_of 24 16777216 (by decide) (by decide) l (by omega)]; decide +kernel
    · rw [clz_of 25 33554432 (by decide) (by decide) (by omega) (by omega)]; decide +kernel
  refine ⟨u_of 6 ht (by decide +kernel) (by decide) (by omega) (by omega), ?_⟩
  show shrI (rootT x).v (kW 1).v = _
  rw [ht]
  decide +kernel
theorem root_4 {x : Wd} (l : 4194304 ≤ x.v) (r : x.v < 16777216) : (rootU x).v = x.v * 64 ∧ (rootW x).2.v = 4 := by
  have ht : rootT x = kW 8 := by
    apply Wd.ext_
    show andI (clzI x.v) (kW 30).v = (kW 8).v
    by_cases c : x.v < 8388608
    · rw [clz_of 22 4194304 (by decide) (by decide) l (by omega)]; decide +kernel
    · rw [clz_of 23 8388608 (by decide) (by decide) (by omega) (by omega)]; decide +kernel
  refine ⟨u_of 8 ht (by decide +kernel) (by decide) (by omega) (by omega), ?_⟩
  show shrI (rootT x).v (kW 1).v = _
  rw [ht]
  decide +kernel
theorem root_5 {x : Wd} (l : 1048576 ≤ x.v) (r : x.v < 4194304) : (rootU x).v = x.v * 256 ∧ (rootW x).2.v = 5 := by
  have ht : rootT x = kW 10 := by
    apply Wd.ext_
    show andI (clzI x.v) (kW 30).v = (kW 10).v
    by_cases c : x.v < 2097152
    · rw [clz_of 20 1048576 (by decide) (by decide) l (by omega)]; decide +kernel
    · rw [clz_of 21 2097152 (by decide) (by decide) (by omega) (by omega)]; decide +kernel
  refine ⟨u_of 10 ht (by decide +kernel) (by decide) (by omega) (by omega), ?_⟩
  show shrI (rootT x).v (kW 1).v = _
  rw [ht]
  decide +kernel
theorem root_6 {x : Wd} (l : 262144 ≤ x.v) (r : x.v < 1048576) : (rootU x).v = x.v * 1024 ∧ (rootW x).2.v = 6 := by
  have ht : rootT x = kW 12 := by
    apply Wd.ext_
    show andI (clzI x.v) (kW 30).v = (kW 12).v
    by_cases c : x.v < 524288
    · rw [clz_of 18 262144 (by decide) (by decide) l (by omega)]; decide +kernel
    · rw [clz_of 19 524288 (by decide) (by decide) (by omega) (by omega)]; decide +kernel
  refine ⟨u_of 12 ht (by decide +kernel) (by decide) (by omega) (by omega), ?_⟩
  show shrI (rootT x).v (kW 1).v = _
  rw [ht]
  decide +kernel
theorem root_7 {x : Wd} (l : 65536 ≤ x.v) (r : x.v < 262144) : (rootU x).v = x.v * 4096 ∧ (rootW x).2.v = 7 := by
  have ht : rootT x = kW 14 := by
    apply Wd.ext_
    show andI (clzI x.v) (kW 30).v = (kW 14).v
    by_cases c : x.v < 131072
    · rw [clz_of 16 65536 (by decide) (by decide) l (by omega)]; decide +kernel
    · rw [clz_of 17 131072 (by decide) (by decide) (by omega) (by omega)]; decide +kernel
  refine ⟨u_of 14 ht (by decide +kernel) (by decide) (by omega) (by omega), ?_⟩
  show shrI (rootT x).v (kW 1).v = _
  rw [ht]
  decide +kernel
theorem root_8 {x : Wd} (l : 16384 ≤ x.v) (r : x.v < 65536) : (rootU x).v = x.v * 16384 ∧ (rootW x).2.v = 8 := by
  have ht : rootT x = kW 16 := by
    apply Wd.ext_
    show andI (clzI x.v) (kW 30).v = (kW 16).v
    by_cases c : x.v < 32768
    · rw [clz_of 14 16384 (by decide) (by decide) l (by omega)]; decide +kernel
    · rw [clz_of 15 32768 (by decide) (by decide) (by omega) (by omega)]; decide +kernel
  refine ⟨u_of 16 ht (by decide +kernel) (by decide) (by omega) (by omega), ?_⟩
  show shrI (rootT x).v (kW 1).v = _
  rw [ht]
  decide +kernel
theorem root_9 {x : Wd} (l : 4096 ≤ x.v) (r : x.v < 16384) : (rootU x).v = x.v * 65536 ∧ (rootW x).2.v = 9 := by
  have ht : rootT x = kW 18 := by
    apply Wd.ext_
    show andI (clzI x.v) (kW 30).v = (kW 18).v
    by_cases c : x.v < 8192
    · rw [clz_of 12 4096 (by decide) (by decide) l (by omega)]; decide +kernel
    · rw [clz_of 13 8192 (by decide) (by decide) (by omega) (by omega)]; decide +kernel
  refine ⟨u_of 18 ht (by decide +kernel) (by decide) (by omega) (by omega), ?_⟩
  show shrI (rootT x).v (kW 1).v = _
  rw [ht]
  decide +kernel
theorem root_10 {x : Wd} (l : 1024 ≤ x.v) (r : x.v < 4096) : (rootU x).v = x.v * 262144 ∧ (rootW x).2.v = 10 := by
  have ht : rootT x = kW 20 := by
    apply Wd.ext_
    show andI (clzI x.v) (kW 30).v = (kW 20).v
    by_cases c : x.v < 2048
    · rw [clz_of 10 1024 (by decide) (by decide) l (by omega)]; decide +kernel
    · rw [clz_of 11 2048 (by decide) (by decide) (by omega) (by omega)]; decide +kernel
  refine ⟨u_of 20 ht (by decide +kernel) (by decide) (by omega) (by omega), ?_⟩
  show shrI (rootT x).v (kW 1).v = _
  rw [ht]
  decide +kernel
theorem root_11 {x : Wd} (l : 256 ≤ x.v) (r : x.v < 1024) : (rootU x).v = x.v * 1048576 ∧ (rootW x).2.v = 11 := by
  have ht : rootT x = kW 22 := by
    apply Wd.ext_
    show andI (clzI x.v) (kW 30).v = (kW 22).v
    by_cases c : x.v < 512
    · rw [clz_of 8 256 (by decide) (by decide) l (by omega)]; decide +kernel
    · rw [clz_of 9 512 (by decide) (by decide) (by omega) (by omega)]; decide +kernel
  refine ⟨u_of 22 ht (by decide +kernel) (by decide) (by omega) (by omega), ?_⟩
  show shrI (rootT x).v (kW 1).v = _
  rw [ht]
  decide +kernel
theorem root_12 {x : Wd} (l : 64 ≤ x.v) (r : x.v < 256) : (rootU x).v = x.v * 4194304 ∧ (rootW x).2.v = 12 := by
  have ht : rootT x = kW 24 := by
    apply Wd.ext_
    show andI (clzI x.v) (kW 30).v = (kW 24).v
    by_cases c : x.v < 128
    · rw [clz_of 6 64 (by decide) (by decide) l (by omega)]; decide +kernel
    · rw [clz_of 7 128 (by decide) (by decide) (by omega) (by omega)]; decide +kernel
  refine ⟨u_of 24 ht (by decide +kernel) (by decide) (by omega) (by omega), ?_⟩
  show shrI (rootT x).v (kW 1).v = _
  rw [ht]
  decide +kernel
theorem root_13 {x : Wd} (l : 16 ≤ x.v) (r : x.v < 64) : (rootU x).v = x.v * 16777216 ∧ (rootW x).2.v = 13 := by
  have ht : rootT x = kW 26 := by
    apply Wd.ext_
    show andI (clzI x.v) (kW 30).v = (kW 26).v
    by_cases c : x.v < 32
    · rw [clz_of 4 16 (by decide) (by decide) l (by omega)]; decide +kernel
    · rw [clz_of 5 32 (by decide) (by decide) (by omega) (by omega)]; decide +kernel
  refine ⟨u_of 26 ht (by decide +kernel) (by decide) (by omega) (by omega), ?_⟩
  show shrI (rootT x).v (kW 1).v = _
  rw [ht]
  decide +kernel
theorem root_14 {x : Wd} (l : 4 ≤ x.v) (r : x.v < 16) : (rootU x).v = x.v * 67108864 ∧ (rootW x).2.v = 14 := by
  have ht : rootT x = kW 28 := by
    apply Wd.ext_
    show andI (clzI x.v) (kW 30).v = (kW 28).v
    by_cases c : x.v < 8
    · rw [clz_of 2 4 (by decide) (by decide) l (by omega)]; decide +kernel
    · rw [clz_of 3 8 (by decide) (by decide) (by omega) (by omega)]; decide +kernel
  refine ⟨u_of 28 ht (by decide +kernel) (by decide) (by omega) (by omega), ?_⟩
  show shrI (rootT x).v (kW 1).v = _
  rw [ht]
  decide +kernel
theorem root_15 {x : Wd} (l : 1 ≤ x.v) (r : x.v < 4) : (rootU x).v = x.v * 268435456 ∧ (rootW x).2.v = 15 := by
  have ht : rootT x = kW 30 := by
    apply Wd.ext_
    show andI (clzI x.v) (kW 30).v = (kW 30).v
    by_cases c : x.v < 2
    · rw [clz_of 0 1 (by decide) (by decide) l (by omega)]; decide +kernel
    · rw [clz_of 1 2 (by decide) (by decide) (by omega) (by omega)]; decide +kernel
  refine ⟨u_of 30 ht (by decide +kernel) (by decide) (by omega) (by omega), ?_⟩
  show shrI (rootT x).v (kW 1).v = _
  rw [ht]
  decide +kernel
/-- Of a word below 2^30: the power H of 2 to come, and 4^H n z z near 2^90. -/
theorem root_word {x : Wd} (h0 : 1000000 ≤ x.v) (h1 : x.v ≤ 400000000) :
    ∃ (h : Nat) (H : Int), (rootW x).2 = kW h ∧ h ≤ 6 ∧ H = 2 ^ h ∧ H ≤ 64 ∧ 0 < H ∧ 268435456 ≤ x.v * (H * H) / 4 ∧ 4 * (x.v * (H * H) / 4) = x.v * (H * H) ∧ (rootU x).v = x.v * (H * H) / 4 ∧ (rootU x).v < 1073741824 := by
  by_cases c1 : 268435456 ≤ x.v
  · obtain ⟨a, b⟩ := root_1 c1 (by omega)
    exact ⟨1, 2, Wd.ext_ (b.trans (by decide +kernel)), by decide, by decide, by decide, by decide, by omega, by omega, by omega, by omega⟩
  by_cases c2 : 67108864 ≤ x.v
  · obtain ⟨a, b⟩ := root_2 c2 (by omega)
    exact ⟨2, 4, Wd.ext_ (b.trans (by decide +kernel)), by decide, by decide, by decide, by decide, by omega, by omega, by omega, by omega⟩
  by_cases c3 : 16777216 ≤ x.v
  · obtain ⟨a, b⟩ := root_3 c3 (by omega)
    exact ⟨3, 8, Wd.ext_ (b.trans (by decide +kernel)), by decide, by decide, by decide, by decide, by omega, by omega, by omega, by omega⟩
  by_cases c4 : 4194304 ≤ x.v
  · obtain ⟨a, b⟩ := root_4 c4 (by omega)
    exact ⟨4, 16, Wd.ext_ (b.trans (by decide +kernel)), by decide, by decide, by decide, by decide, by omega, by omega, by omega, by omega⟩
  by_cases c5 : 1048576 ≤ x.v
  · obtain ⟨a, b⟩ := root_5 c5 (by omega)
    exact ⟨5, 32, Wd.ext_ (b.trans (by decide +kernel)), by decide, by decide, by decide, by decide, by omega, by omega, by omega, by omega⟩
  obtain ⟨a, b⟩ := root_6 (x := x) (by omega) (by omega)
  exact ⟨6, 64, Wd.ext_ (b.trans (by decide +kernel)), by decide, by decide, by decide, by decide, by omega, by omega, by omega, by omega⟩
end Go.Proofs.YtbmfcedndbgpoaaGreat

/- What gates reckon, in plain numbers. -/
namespace Go.Proofs.YtbmfcedndbgpoaaGreat
open Go.RowKit Go.Deep
set_option linter.unusedVariables false
theorem or00 : orI 0 0 = 0 := by decide +kernel
theorem or01 : orI 0 1 = 1 := by decide +kernel
theorem or10 : orI 1 0 = 1 := by decide +kernel
theorem or11 : orI 1 1 = 1 := by decide +kernel
theorem gateB_spec (n : Wd) (lo hi : Int) (h0 : 0 ≤ lo) (h1 : lo ≤ 2147483647) (h2 : 0 ≤ hi) (h3 : hi ≤ 2147483647) :
    gateB n lo hi = decide (lo ≤ n.v % 4294967296 ∧ n.v % 4294967296 ≤ hi) := by
  unfold gateB withinW
  show (subI (orI (ltuI n.v (kW lo).v) (ltuI (kW hi).v n.v)) (kW 1).v != 0) = _
  rw [kW_v (show In32 lo from ⟨by omega, by omega⟩), kW_v (show In32 hi from ⟨by omega, by omega⟩), kW_v (show In32 1 by decide)]
  unfold ltuI
  have e1 : lo % 4294967296 = lo := by omega
  have e2 : hi % 4294967296 = hi := by omega
  rw [e1, e2]
  by_cases a : n.v % 4294967296 < lo <;> by_cases b : hi < n.v % 4294967296
  · rw [if_pos a, if_pos b, or11, decide_eq_false (by omega)]; decide +kernel
  · rw [if_pos a, if_neg b, or10, decide_eq_false (by omega)]; decide +kernel
  · rw [if_neg a, if_pos b, or01, decide_eq_false (by omega)]; decide +kernel
  · rw [if_neg a, if_neg b, or00, decide_eq_true (by omega)]; decide +kernel
theorem square_short (a b c : Wd) (ha : -32768 ≤ a.v ∧ a.v ≤ 32767) (hb : -32768 ≤ b.v ∧ b.v ≤ 32767) (hc : -32768 ≤ c.v ∧ c.v ≤ 32767) :
    (squareW a b c).v % 4294967296 = a.v * a.v + b.v * b.v + c.v * c.v ∧ 0 ≤ a.v * a.v ∧ a.v * a.v ≤ 1073741824 ∧ 0 ≤ b.v * b.v ∧ b.v * b.v ≤ 1073741824 ∧ 0 ≤ c.v * c.v ∧ c.v * c.v ≤ 1073741824 := by
  have sq : ∀ x : Int, -32768 ≤ x ∧ x ≤ 32767 → 0 ≤ x * x ∧ x * x ≤ 1073741824 := fun x hx => by
    have h : (x * x).natAbs ≤ 32768 * 32768 := by rw [Int.natAbs_mul]; exact Nat.mul_le_mul (by omega) (by omega)
    have h2 : 0 ≤ x * x := by
      rcases Int.le_total 0 x with h | h
      · exact Int.mul_nonneg h h
      · exact Int.mul_nonneg_of_nonpos_of_nonpos h h
    omega
  have h1 := sq _ ha
  have h2 := sq _ hb
  have h3 := sq _ hc
  refine ⟨?_, h1.1, h1.2, h2.1, h2.2, h3.1, h3.2⟩
  show addI (addI (mulI a.v a.v) (mulI b.v b.v)) (mulI c.v c.v) % 4294967296 = _
  unfold addI mulI
  generalize a.v * a.v = x at *
  generalize b.v * b.v = y at *
  generalize c.v * c.v = z at *
  unfold wrap32
  omega
theorem mul_neg (a : Wd) : mulW ⟨wrap32 (-a.v), in_wrap _⟩ ⟨wrap32 (-a.v), in_wrap _⟩ = mulW a a := by
  apply Wd.ext_
  show mulI (wrap32 (-a.v)) (wrap32 (-a.v)) = mulI a.v a.v
  have h := a.ok
  unfold In32 at h
  by_cases h1 : a.v = -2147483648
  · rw [h1]; decide +kernel
  · rw [show wrap32 (-a.v) = -a.v by unfold wrap32; omega]
    unfold mulI
    rw [Int.neg_mul_neg]
theorem add_rot (x y z : Wd) : addW (addW y z) x = addW (addW x y) z := by
  apply Wd.ext_
  show addI (addI y.v z.v) x.v = addI (addI x.v y.v) z.v
  unfold addI wrap32
  omega
theorem square_rot (a b c : Wd) : squareW b c a = squareW a b c := add_rot _ _ _
end Go.Proofs.YtbmfcedndbgpoaaGreat

/- The length of what Pointing makes. -/
namespace Go.Proofs.YtbmfcedndbgpoaaGreat
open Go.RowKit Go.Deep
set_option linter.unusedVariables false
theorem ab {A B b : Int} (hB : -b ≤ B ∧ B ≤ b) : -((A.natAbs : Int) * b) ≤ A * B ∧ A * B ≤ (A.natAbs : Int) * b := by
  rcases Int.le_total 0 A with h | h
  · rw [Int.natAbs_of_nonneg h]
    have h1 := Int.mul_le_mul_of_nonneg_left hB.1 h
    have h2 := Int.mul_le_mul_of_nonneg_left hB.2 h
    rw [Int.mul_neg] at h1
    omega
  · rw [Int.ofNat_natAbs_of_nonpos h]
    have h1 := Int.mul_le_mul_of_nonpos_left h hB.1
    have h2 := Int.mul_le_mul_of_nonpos_left h hB.2
    rw [Int.mul_neg] at h1
    rw [Int.neg_mul]
    omega
/-- Three parts, rounded. -/
theorem three {A0 A1 A2 B0 B1 B2 U0 U1 U2 N : Int}
    (h0 : 1073741824 * U0 = A0 + B0) (h1 : 1073741824 * U1 = A1 + B1) (h2 : 1073741824 * U2 = A2 + B2)
    (b0 : -34359738368 ≤ B0 ∧ B0 ≤ 34359738368) (b1 : -34359738368 ≤ B1 ∧ B1 ≤ 34359738368) (b2 : -34359738368 ≤ B2 ∧ B2 ≤ 34359738368)
    (hN : A0 * A0 + A1 * A1 + A2 * A2 = N) (hb : 48 * N ≤ 49 * 1329227995784915872903807060280344576) :
    N - 138649363520000000000000000000 ≤ 1152921504606846976 * (U0 * U0 + U1 * U1 + U2 * U2) ∧ 1152921504606846976 * (U0 * U0 + U1 * U1 + U2 * U2) ≤ N + 138649363520000000000000000000 := by
  have key : 1152921504606846976 * (U0 * U0 + U1 * U1 + U2 * U2) = N + 2 * (A0 * B0 + A1 * B1 + A2 * B2) + (B0 * B0 + B1 * B1 + B2 * B2) := by
    have e0 : 1073741824 * U0 * (1073741824 * U0) = (A0 + B0) * (A0 + B0) := by rw [h0]
    have e1 : 1073741824 * U1 * (1073741824 * U1) = (A1 + B1) * (A1 + B1) := by rw [h1]
    have e2 : 1073741824 * U2 * (1073741824 * U2) = (A2 + B2) * (A2 + B2) := by rw [h2]
    clear h0 h1 h2 b0 b1 b2 hb
    grind
  have c0 := ab (A := A0) b0
  have c1 := ab (A := A1) b1
  have c2 := ab (A := A2) b2
  have d0 := ab (A := B0) b0
  have d1 := ab (A := B1) b1
  have d2 := ab (A := B2) b2
  have f0 : (B0.natAbs : Int) ≤ 34359738368 := by omega
  have f1 : (B1.natAbs : Int) ≤ 34359738368 := by omega
  have f2 : (B2.natAbs : Int) ≤ 34359738368 := by omega
  have s0 := sq_nonneg B0
  have s1 := sq_nonneg B1
  have s2 := sq_nonneg B2
  have hS : (A0.natAbs : Int) + A1.natAbs + A2.natAbs ≤ 2017612633061982208 := by
    refine Int.not_lt.1 (fun hc => ?_)
    have q0 : (A0.natAbs : Int) * A0.natAbs = A0 * A0 := Int.natAbs_mul_self
    have q1 : (A1.natAbs : Int) * A1.natAbs = A1 * A1 := Int.natAbs_mul_self
    have q2 : (A2.natAbs : Int) * A2.natAbs = A2 * A2 := Int.natAbs_mul_self
    generalize (A0.natAbs : Int) = a0 at *
    generalize (A1.natAbs : Int) = a1 at *
    generalize (A2.natAbs : Int) = a2 at *
    have g : 2017612633061982208 * 2017612633061982208 < (a0 + a1 + a2) * (a0 + a1 + a2) := Int.mul_lt_mul hc (Int.le_of_lt hc) (by decide) (Int.le_trans (by decide) (Int.le_of_lt hc))
    have t : (a0 + a1 + a2) * (a0 + a1 + a2) + (a0 - a1) * (a0 - a1) + (a1 - a2) * (a1 - a2) + (a2 - a0) * (a2 - a0) = 3 * N := by
      clear g hc c0 c1 c2 d0 d1 d2 key h0 h1 h2
      grind
    have u0 := sq_nonneg (a0 - a1)
    have u1 := sq_nonneg (a1 - a2)
    have u2 := sq_nonneg (a2 - a0)
    generalize (a0 + a1 + a2) * (a0 + a1 + a2) = X at *
    generalize (a0 - a1) * (a0 - a1) = X0 at *
    generalize (a1 - a2) * (a1 - a2) = X1 at *
    generalize (a2 - a0) * (a2 - a0) = X2 at *
    clear c0 c1 c2 d0 d1 d2 key
    omega
  rw [key]
  clear hN key h0 h1 h2 hb
  generalize A0 * B0 = p0 at *
  generalize A1 * B1 = p1 at *
  generalize A2 * B2 = p2 at *
  generalize B0 * B0 = r0 at *
  generalize B1 * B1 = r1 at *
  generalize B2 * B2 = r2 at *
  omega
theorem up15_is {a : Wd} (h : -65536 ≤ a.v ∧ a.v ≤ 65535) : (upW a 15).v = 32768 * a.v := by
  show Go.RowKit.wrap32 (a.v % 4294967296 * 2 ^ sh 15 % 4294967296) = _
  have : sh 15 = 15 := by decide +kernel
  rw [this]
  unfold Go.RowKit.wrap32
  omega
theorem shl_is {a : Wd} (h : Nat) (H : Int) (hh : h ≤ 6) (hH : H = 2 ^ h) (l : -2147483648 ≤ H * a.v) (r : H * a.v ≤ 2147483647) : (shlW a (kW h)).v = H * a.v := by
  show Go.RowKit.wrap32 (a.v % 4294967296 * 2 ^ sh (kW h).v % 4294967296) = _
  have e : sh (kW h).v = h := by
    have : ∀ h : Nat, h ≤ 6 → sh (kW h).v = h := by decide +kernel
    exact this h hh
  rw [e]
  have hc : h = 0 ∨ h = 1 ∨ h = 2 ∨ h = 3 ∨ h = 4 ∨ h = 5 ∨ h = 6 := by omega
  unfold Go.RowKit.wrap32
  rcases hc with rfl | rfl | rfl | rfl | rfl | rfl | rfl <;> subst hH <;> simp only [Int.reducePow] at * <;> omega
end Go.Proofs.YtbmfcedndbgpoaaGreat

/- Directions: a turn by n parts of 2^-29, as a power of 2^29 + i, in whole numbers. -/
namespace Go.Proofs.YtbmfcedndbgpoaaGreat
set_option linter.unusedVariables false
/-- A number of two parts. -/
structure G where
  re : Int
  im : Int
theorem G.ext_ {a b : G} (h : a.re = b.re) (h' : a.im = b.im) : a = b := by cases a; cases b; cases h; cases h'; rfl
def G.mul (a b : G) : G := ⟨a.re * b.re - a.im * b.im, a.re * b.im + a.im * b.re⟩
def G.conj (a : G) : G := ⟨a.re, -a.im⟩
/-- The square of its length. -/
def G.sq (a : G) : Int := a.re * a.re + a.im * a.im
def G.by (k : Int) (a : G) : G := ⟨k * a.re, k * a.im⟩
theorem G.mul_comm (a b : G) : a.mul b = b.mul a := by apply G.ext_ <;> unfold G.mul <;> grind
theorem G.mul_assoc (a b c : G) : (a.mul b).mul c = a.mul (b.mul c) := by apply G.ext_ <;> unfold G.mul <;> grind
instance : Std.Associative G.mul := ⟨G.mul_assoc⟩
instance : Std.Commutative G.mul := ⟨G.mul_comm⟩
theorem G.conj_mul (a b : G) : (a.mul b).conj = a.conj.mul b.conj := by apply G.ext_ <;> unfold G.mul G.conj <;> grind
theorem G.conj_conj (a : G) : a.conj.conj = a := by apply G.ext_ <;> unfold G.conj <;> simp
theorem G.mul_conj (a : G) : a.mul a.conj = ⟨a.sq, 0⟩ := by apply G.ext_ <;> unfold G.mul G.conj G.sq <;> grind
theorem G.by_mul (k : Int) (a b : G) : (a.by k).mul b = (a.mul b).by k := by apply G.ext_ <;> unfold G.mul G.by <;> grind
theorem G.real_mul (k : Int) (b : G) : (G.mk k 0).mul b = b.by k := by apply G.ext_ <;> unfold G.mul G.by <;> grind
theorem G.one_mul (b : G) : (G.mk 1 0).mul b = b := by apply G.ext_ <;> unfold G.mul <;> grind
theorem G.sq_nonneg (a : G) : 0 ≤ a.sq := Int.add_nonneg (Proofs.YtbmfcedndbgpoaaGreat.sq_nonneg _) (Proofs.YtbmfcedndbgpoaaGreat.sq_nonneg _)
/-- What a direction is measured by: 2^90. -/
def DD : Int := 1237940039285380274899124224
theorem DD_pos : 0 < DD := by decide
/-- The direction is that of 1, but for d by 2^90. -/
def Cone (d : Int) (z : G) : Prop := 0 < z.re ∧ -(d * z.re) ≤ DD * z.im ∧ DD * z.im ≤ d * z.re
theorem Cone.conj {d : Int} {z : G} (h : Cone d z) : Cone d z.conj := by
  obtain ⟨h1, h2, h3⟩ := h
  refine ⟨h1, ?_, ?_⟩
  · show -(d * z.re) ≤ DD * -z.im
    rw [Int.mul_neg]; omega
  · show DD * -z.im ≤ d * z.re
    rw [Int.mul_neg]; omega
theorem Cone.mono {d e : Int} {z : G} (h : Cone d z) (hd : d ≤ e) : Cone e z := by
  obtain ⟨h1, h2, h3⟩ := h
  have := Int.mul_le_mul_of_nonneg_right hd (Int.le_of_lt h1)
  exact ⟨h1, by omega, by omega⟩
theorem Cone.of_by {d k : Int} {z : G} (hk : 0 < k) (h : Cone d (z.by k)) : Cone d z := by
  obtain ⟨h1, h2, h3⟩ := h
  have g1 : 0 < k * z.re := h1
  have g2 : -(d * (k * z.re)) ≤ DD * (k * z.im) := h2
  have g3 : DD * (k * z.im) ≤ d * (k * z.re) := h3
  have r : 0 < z.re := by
    refine Int.not_le.1 (fun hc => ?_)
    have := Int.mul_nonpos_of_nonneg_of_nonpos (Int.le_of_lt hk) hc
    omega
  have e1 : d * (k * z.re) = k * (d * z.re) := Int.mul_left_comm _ _ _
  have e2 : DD * (k * z.im) = k * (DD * z.im) := Int.mul_left_comm _ _ _
  rw [e1, e2] at g2 g3
  refine ⟨r, ?_, Int.le_of_mul_le_mul_left g3 hk⟩
  rw [← Int.mul_neg] at g2
  exact Int.le_of_mul_le_mul_left g2 hk
theorem Cone.to_by {d k : Int} {z : G} (hk : 0 < k) (h : Cone d z) : Cone d (z.by k) := by
  obtain ⟨h1, h2, h3⟩ := h
  have e1 : d * (k * z.re) = k * (d * z.re) := Int.mul_left_comm _ _ _
  have e2 : DD * (k * z.im) = k * (DD * z.im) := Int.mul_left_comm _ _ _
  refine ⟨Int.mul_pos hk h1, ?_, ?_⟩
  · show -(d * (k * z.re)) ≤ DD * (k * z.im)
    rw [e1, e2, ← Int.mul_neg]
    exact Int.mul_le_mul_of_nonneg_left h2 (Int.le_of_lt hk)
  · show DD * (k * z.im) ≤ d * (k * z.re)
    rw [e1, e2]
    exact Int.mul_le_mul_of_nonneg_left h3 (Int.le_of_lt hk)
/-- Two directions together. -/
theorem Cone.mul {d1 d2 d3 : Int} {z1 z2 : G} (h1 : Cone d1 z1) (h2 : Cone d2 z2) (hd : d1 * d2 < DD * DD) (hd3 : 0 ≤ d3) (h : (d1 + d2) * (DD * DD) ≤ d3 * (DD * DD - d1 * d2)) : Cone d3 (z1.mul z2) := by
  obtain ⟨a1, a2, a3⟩ := h1
  obtain ⟨b1, b2, b3⟩ := h2
  obtain ⟨R1, I1⟩ := z1
  obtain ⟨R2, I2⟩ := z2
  simp only at a1 a2 a3 b1 b2 b3
  have hA : 0 < R1 * R2 := Int.mul_pos a1 b1
  have hI := mul_bd (a := DD * I1) (b := DD * I2) (A := d1 * R1) (B := d2 * R2) ⟨a2, a3⟩ ⟨b2, b3⟩
  have e1 : DD * I1 * (DD * I2) = DD * DD * (I1 * I2) := by grind
  have e2 : d1 * R1 * (d2 * R2) = d1 * d2 * (R1 * R2) := by grind
  rw [e1, e2] at hI
  have hDD : 0 < DD * DD := by decide
  -- the real part
  have hre : (DD * DD - d1 * d2) * (R1 * R2) ≤ DD * DD * (R1 * R2 - I1 * I2) := by
    rw [Int.sub_mul, Int.mul_sub]; omega
  have hpos : 0 < R1 * R2 - I1 * I2 := by
    have q : 0 < (DD * DD - d1 * d2) * (R1 * R2) := Int.mul_pos (by omega) hA
    refine Int.not_le.1 (fun hc => ?_)
    have := Int.mul_nonpos_of_nonneg_of_nonpos (Int.le_of_lt hDD) hc
    omega
  -- the other part
  have p1 := mul_bd (a := R1) (b := DD * I2) (A := R1) (B := d2 * R2) (by omega) ⟨b2, b3⟩
  have p2 := mul_bd (a := R2) (b := DD * I1) (A := R2) (B := d1 * R1) (by omega) ⟨a2, a3⟩
  have f1 : R1 * (DD * I2) = DD * (R1 * I2) := by grind
  have f2 : R2 * (DD * I1) = DD * (I1 * R2) := by grind
  have f3 : R1 * (d2 * R2) = d2 * (R1 * R2) := by grind
  have f4 : R2 * (d1 * R1) = d1 * (R1 * R2) := by grind
  rw [f1, f3] at p1
  rw [f2, f4] at p2
  have him : -((d1 + d2) * (R1 * R2)) ≤ DD * (R1 * I2 + I1 * R2) ∧ DD * (R1 * I2 + I1 * R2) ≤ (d1 + d2) * (R1 * R2) := by
    rw [Int.mul_add, Int.add_mul]; omega
  have hk : (d1 + d2) * (DD * DD) * (R1 * R2) ≤ d3 * (DD * DD - d1 * d2) * (R1 * R2) := Int.mul_le_mul_of_nonneg_right h (Int.le_of_lt hA)
  have hl : d3 * ((DD * DD - d1 * d2) * (R1 * R2)) ≤ d3 * (DD * DD * (R1 * R2 - I1 * I2)) := Int.mul_le_mul_of_nonneg_left hre hd3
  have hm : (d1 + d2) * (R1 * R2) ≤ d3 * (R1 * R2 - I1 * I2) := by
    have g1 : (d1 + d2) * (DD * DD) * (R1 * R2) = DD * DD * ((d1 + d2) * (R1 * R2)) := by grind
    have g2 : d3 * (DD * DD * (R1 * R2 - I1 * I2)) = DD * DD * (d3 * (R1 * R2 - I1 * I2)) := by grind
    rw [g1, Int.mul_assoc d3] at hk
    rw [g2] at hl
    exact Int.le_of_mul_le_mul_left (Int.le_trans hk hl) hDD
  show Cone d3 ⟨R1 * R2 - I1 * I2, R1 * I2 + I1 * R2⟩
  exact ⟨hpos, by show -(d3 * (R1 * R2 - I1 * I2)) ≤ DD * (R1 * I2 + I1 * R2); omega, by show DD * (R1 * I2 + I1 * R2) ≤ d3 * (R1 * R2 - I1 * I2); omega⟩
/-- Small ones together. -/
theorem Cone.mul' {d1 d2 : Int} {z1 z2 : G} (h1 : Cone d1 z1) (h2 : Cone d2 z2) (h0 : 0 ≤ d1 ∧ d1 ≤ 4722366482869645213696) (h0' : 0 ≤ d2 ∧ d2 ≤ 4722366482869645213696) : Cone (d1 + d2 + 274877906944) (z1.mul z2) := by
  have q : d1 * d2 ≤ 4722366482869645213696 * 4722366482869645213696 := Int.mul_le_mul h0.2 h0'.2 h0'.1 (by decide)
  have q0 : 0 ≤ d1 * d2 := Int.mul_nonneg h0.1 h0'.1
  refine h1.mul h2 ?_ (by omega) ?_
  · refine Int.lt_of_le_of_lt q (by decide)
  · have p : (d1 + d2 + 274877906944) * (d1 * d2) ≤ (4722366482869645213696 + 4722366482869645213696 + 274877906944) * (4722366482869645213696 * 4722366482869645213696) := Int.mul_le_mul (by omega) q q0 (by decide)
    have e : (d1 + d2 + 274877906944) * (DD * DD - d1 * d2) = (d1 + d2) * (DD * DD) + 274877906944 * (DD * DD) - (d1 + d2 + 274877906944) * (d1 * d2) := by grind
    rw [e]
    have hb : (4722366482869645213696 + 4722366482869645213696 + 274877906944) * (4722366482869645213696 * 4722366482869645213696) ≤ 274877906944 * (DD * DD) := by decide
    omega
/-- The n-th power. -/
def P : Nat → G
  | 0 => ⟨1, 0⟩
  | n + 1 => (P n).mul ⟨536870912, 1⟩
theorem P_add (a b : Nat) : P (a + b) = (P a).mul (P b) := by
  induction b with
  | zero => rw [Nat.add_zero, G.mul_comm]; exact (G.one_mul _).symm
  | succ b ih => show (P (a + b)).mul _ = (P a).mul ((P b).mul _); rw [ih, G.mul_assoc]
theorem P_sq_pos (n : Nat) : 0 < (P n).sq := by
  induction n with
  | zero => decide
  | succ n ih =>
    have e : (P (n + 1)).sq = 288230376151711745 * (P n).sq := by
      show ((P n).mul ⟨536870912, 1⟩).sq = _
      unfold G.sq G.mul
      grind
    rw [e]
    exact Int.mul_pos (by decide) ih
/-- A power's direction, reckoned. -/
def apSq (z : G) : G := let w := z.mul z; ⟨w.re / DD, w.im / DD⟩
def apOne (z : G) : G := let w := z.mul ⟨536870912, 1⟩; ⟨w.re / 536870912, w.im / 536870912⟩
def coneB (d : Int) (z : G) : Bool := decide (0 < z.re) && decide (-(d * z.re) ≤ DD * z.im) && decide (DD * z.im ≤ d * z.re)
theorem coneB_spec {d : Int} {z : G} (h : coneB d z = true) : Cone d z := by
  unfold coneB at h
  simp only [Bool.and_eq_true, decide_eq_true_eq] at h
  exact ⟨h.1.1, h.1.2, h.2⟩
/-- The reckoned direction, how far off it may be, and whether all steps were near. -/
def ap : Nat → Nat → G × Int × Bool
  | 0, n => (⟨DD, 0⟩, 0, n == 0)
  | f + 1, n =>
    if n = 0 then (⟨DD, 0⟩, 0, true) else
      let (z, e, b) := ap f (n / 2)
      let w := apSq z
      let b1 := b && coneB 8 ((z.mul z).mul w.conj) && decide (0 < w.sq) && decide (e ≤ 144115188075855872)
      let e1 := 2 * e + 16
      if n % 2 = 0 then (w, e1, b1) else
        let v := apOne w
        (v, e1 + 16, b1 && coneB 8 ((w.mul ⟨536870912, 1⟩).mul v.conj) && decide (0 < v.sq))
theorem Cone.mul_small {d1 d2 : Int} {z1 z2 : G} (h1 : Cone d1 z1) (h2 : Cone d2 z2) (h0 : 0 ≤ d1 ∧ d1 ≤ 576460752303423488) (h0' : 0 ≤ d2 ∧ d2 ≤ 576460752303423488) : Cone (d1 + d2 + 1) (z1.mul z2) := by
  have q : d1 * d2 ≤ 576460752303423488 * 576460752303423488 := Int.mul_le_mul h0.2 h0'.2 h0'.1 (by decide)
  have q0 : 0 ≤ d1 * d2 := Int.mul_nonneg h0.1 h0'.1
  refine h1.mul h2 ?_ (by omega) ?_
  · refine Int.lt_of_le_of_lt q (by decide)
  · have p : (d1 + d2 + 1) * (d1 * d2) ≤ (576460752303423488 + 576460752303423488 + 1) * (576460752303423488 * 576460752303423488) := Int.mul_le_mul (by omega) q q0 (by decide)
    have e : (d1 + d2 + 1) * (DD * DD - d1 * d2) = (d1 + d2) * (DD * DD) + DD * DD - (d1 + d2 + 1) * (d1 * d2) := by grind
    rw [e]
    have hb : (576460752303423488 + 576460752303423488 + 1) * (576460752303423488 * 576460752303423488) ≤ 1 * (DD * DD) := by decide
    omega
theorem G.re_mul_conj (p z w : G) : ((p.mul z.conj).mul (z.mul w.conj)) = (p.mul w.conj).by z.sq := by
  rw [G.mul_assoc, ← G.mul_assoc z.conj, G.mul_comm z.conj z, G.mul_conj, G.real_mul, G.mul_comm p, G.by_mul, G.mul_comm _ p]
theorem ap_spec : ∀ (f n : Nat), (ap f n).2.2 = true → 0 ≤ (ap f n).2.1 ∧ 0 < (ap f n).1.sq ∧ Cone (ap f n).2.1 ((P n).mul (ap f n).1.conj)
  | 0, n => by
    intro h
    have hn : n = 0 := by simpa [ap] using h
    subst hn
    exact ⟨by decide, by decide, coneB_spec (by decide +kernel)⟩
  | f + 1, n => by
    intro h
    by_cases h0 : n = 0
    · subst h0
      exact ⟨by simp [ap], by simp [ap]; decide, by simp [ap]; exact coneB_spec (by decide +kernel)⟩
    · have ih := ap_spec f (n / 2)
      unfold ap at h ⊢
      rw [if_neg h0] at h ⊢
      rcases hz : ap f (n / 2) with ⟨z, e, b⟩
      rw [hz] at h ih
      simp only at h ih ⊢
      have key : (b && coneB 8 ((z.mul z).mul (apSq z).conj) && decide (0 < (apSq z).sq) && decide (e ≤ 144115188075855872)) = true → 0 ≤ 2 * e + 16 ∧ 2 * e + 16 ≤ 576460752303423472 ∧ 0 < (apSq z).sq ∧ Cone (2 * e + 16) ((P (n / 2 + n / 2)).mul (apSq z).conj) := by
        intro hb
        simp only [Bool.and_eq_true, decide_eq_true_eq] at hb
        obtain ⟨⟨⟨hb1, hb2⟩, hb3⟩, hb4⟩ := hb
        obtain ⟨i0, i1, i2⟩ := ih hb1
        refine ⟨by omega, by omega, hb3, ?_⟩
        have c1 := i2.mul_small i2 ⟨i0, by omega⟩ ⟨i0, by omega⟩
        have c2 := (coneB_spec hb2).mul_small c1 (by decide) (by omega)
        have e1 : ((z.mul z).mul (apSq z).conj).mul (((P (n / 2)).mul z.conj).mul ((P (n / 2)).mul z.conj)) = ((P (n / 2 + n / 2)).mul (apSq z).conj).by (z.mul z).sq := by
          rw [P_add, ← G.re_mul_conj, G.conj_mul, G.mul_comm ((z.mul z).mul (apSq z).conj)]
          congr 1
          rw [G.mul_assoc, G.mul_assoc]
          congr 1
          rw [← G.mul_assoc, ← G.mul_assoc, G.mul_comm z.conj]
        rw [e1] at c2
        have hpos : 0 < (z.mul z).sq := by
          have : (z.mul z).sq = z.sq * z.sq := by unfold G.sq G.mul; grind
          rw [this]; exact Int.mul_pos i1 i1
        exact (c2.of_by hpos).mono (by omega)
      by_cases h2 : n % 2 = 0
      · rw [if_pos h2] at h ⊢
        obtain ⟨k1, k2, k3, k4⟩ := key h
        have hn : n / 2 + n / 2 = n := by omega
        rw [hn] at k4
        exact ⟨k1, k3, k4⟩
      · rw [if_neg h2] at h ⊢
        simp only [Bool.and_eq_true] at h
        obtain ⟨⟨h3, h4⟩, h5⟩ := h
        obtain ⟨k1, k2, k3, k4⟩ := key (by simpa only [Bool.and_eq_true] using h3)
        have hn : n = n / 2 + n / 2 + 1 := by omega
        refine ⟨by show 0 ≤ 2 * e + 16 + 16; omega, of_decide_eq_true h5, ?_⟩
        show Cone (2 * e + 16 + 16) ((P n).mul (apOne (apSq z)).conj)
        have c := (coneB_spec h4).mul_small k4 (by decide) (by omega)
        have e1 : (((apSq z).mul ⟨536870912, 1⟩).mul (apOne (apSq z)).conj).mul ((P (n / 2 + n / 2)).mul (apSq z).conj) = ((P n).mul (apOne (apSq z)).conj).by (apSq z).sq := by
          have : P n = (P (n / 2 + n / 2)).mul ⟨536870912, 1⟩ := by
            have e : P n = P (n / 2 + n / 2 + 1) := congrArg P hn
            exact e
          rw [this, ← G.real_mul, ← G.mul_conj]
          ac_rfl
        rw [e1] at c
        exact (c.of_by k3).mono (by omega)
/-- A power's direction is near to a given one. -/
theorem P_near {n : Nat} {v : G} (d : Int) (h : (ap 40 n).2.2 = true) (h2 : coneB d ((ap 40 n).1.mul v.conj) = true) (hd : 0 ≤ d ∧ d ≤ 4722366482869645213696) (he : (ap 40 n).2.1 ≤ 4722366482869645213696) :
    Cone ((ap 40 n).2.1 + d + 274877906944) ((P n).mul v.conj) := by
  obtain ⟨h1, h3, h4⟩ := ap_spec 40 n h
  have c := h4.mul' (coneB_spec h2) ⟨h1, he⟩ hd
  rw [G.re_mul_conj] at c
  exact c.of_by h3
/-- The table of turns. -/
def tab : List Int := [421657428, 248918915, 131521918, 66762579, 33510843, 16771758, 8387925, 4194219, 2097141, 1048575, 524288, 262144, 131072, 65536, 32768, 16384, 8192, 4096, 2048, 1024, 512, 256, 128, 64, 32, 16, 8, 4]
/-- One part of 2^-29, and a little. -/
def chkTab (j : Nat) : Bool := let n := (tab.getD j 0).toNat; let r := ap 40 n; r.2.2 && coneB 1300000000000000000 (r.1.mul (G.mk (2 ^ j) 1).conj) && decide (r.2.1 ≤ 1000000000000)
theorem chkTab_all : ∀ j : Nat, j < 28 → chkTab j = true := by decide +kernel
theorem tab_near (j : Nat) (hj : j < 28) : Cone 1400000000000000000 ((P (tab.getD j 0).toNat).mul (G.mk (2 ^ j) 1).conj) := by
  have h := chkTab_all j hj
  unfold chkTab at h
  simp only [Bool.and_eq_true, decide_eq_true_eq] at h
  obtain ⟨⟨h1, h2⟩, h3⟩ := h
  exact (P_near 1300000000000000000 h1 h2 (by decide) (by omega)).mono (by omega)
end Go.Proofs.YtbmfcedndbgpoaaGreat

/- Turning a place till it lies ahead, in whole numbers: what is left over, and the angle. -/
namespace Go.Proofs.YtbmfcedndbgpoaaGreat
set_option linter.unusedVariables false
/-- A place, and what was turned by, back and forth. -/
structure Tu where
  x : Int
  y : Int
  p : Nat
  m : Nat
def tabN (j : Nat) : Nat := (tab.getD j 0).toNat
def tuStep (j : Nat) (s : Tu) : Tu :=
  if 0 ≤ s.y then ⟨s.x + s.y / 2 ^ j, s.y - s.x / 2 ^ j, s.p + tabN j, s.m⟩ else ⟨s.x - s.y / 2 ^ j, s.y + s.x / 2 ^ j, s.p, s.m + tabN j⟩
def tu (x y : Int) : Nat → Tu
  | 0 => ⟨x, y, 0, 0⟩
  | j + 1 => tuStep j (tu x y j)
/-- How large the first number may be. -/
def capX : Nat → Int
  | 0 => 536870912
  | 1 => 1073741824
  | j + 2 => capX (j + 1) + (2 * (capX (j + 1) / 2 ^ (j + 1)) + (j + 1 : Nat)) / 2 ^ (j + 1) + 1
theorem capX_28 : ∀ j : Nat, j ≤ 28 → capX j ≤ 2013265920 := by decide +kernel
theorem div_pow {x : Int} (j : Nat) : ∃ r : Int, x = 2 ^ j * (x / 2 ^ j) + r ∧ 0 ≤ r ∧ r < 2 ^ j := by
  have h : (0 : Int) < 2 ^ j := Int.pow_pos (by decide)
  exact ⟨x % 2 ^ j, (Int.mul_ediv_add_emod x (2 ^ j)).symm, Int.emod_nonneg _ (by omega), Int.emod_lt_of_pos _ h⟩
theorem half_div {x : Int} (j : Nat) : x / 2 ^ (j + 1) = x / 2 ^ j / 2 := by
  rw [Int.pow_succ, Int.ediv_ediv_of_nonneg (Int.le_of_lt (Int.pow_pos (by decide)))]
/-- The second number becomes small, the first one grows little. -/
structure Good (j : Nat) (s : Tu) : Prop where
  lo : 268435456 ≤ s.x
  hi : s.x ≤ capX j
  near : -(2 * (s.x / 2 ^ j) + j) ≤ s.y ∧ s.y ≤ 2 * (s.x / 2 ^ j) + j
theorem good_step {j : Nat} (hj : 1 ≤ j) {s : Tu} (h : Good j s) : Good (j + 1) (tuStep j s) := by
  obtain ⟨h1, h2, h3, h4⟩ := h
  have hT : (0 : Int) < 2 ^ j := Int.pow_pos (by decide)
  have hcap : capX (j + 1) = capX j + (2 * (capX j / 2 ^ j) + j) / 2 ^ j + 1 := by
    obtain ⟨i, rfl⟩ := Nat.exists_eq_add_of_le hj
    rw [Nat.add_comm 1 i]
    rfl
  have m1 : s.x / 2 ^ j ≤ capX j / 2 ^ j := Int.ediv_le_ediv hT h2
  have m0 : 0 ≤ s.x / 2 ^ j := Int.ediv_nonneg (by omega) (by omega)
  have m2 : (2 * (s.x / 2 ^ j) + j) / 2 ^ j ≤ (2 * (capX j / 2 ^ j) + j) / 2 ^ j := Int.ediv_le_ediv hT (by omega)
  unfold tuStep
  split
  · rename_i hy
    have q0 : 0 ≤ s.y / 2 ^ j := Int.ediv_nonneg hy (by omega)
    have q1 : s.y / 2 ^ j ≤ (2 * (s.x / 2 ^ j) + j) / 2 ^ j := Int.ediv_le_ediv hT h4
    have hx' : s.x / 2 ^ (j + 1) ≤ (s.x + s.y / 2 ^ j) / 2 ^ (j + 1) := Int.ediv_le_ediv (Int.pow_pos (by decide)) (by omega)
    rw [half_div] at hx'
    refine ⟨?_, ?_, ?_, ?_⟩
    · show 268435456 ≤ s.x + s.y / 2 ^ j; omega
    · show s.x + s.y / 2 ^ j ≤ capX (j + 1); omega
    · show -(2 * ((s.x + s.y / 2 ^ j) / 2 ^ (j + 1)) + ((j + 1 : Nat) : Int)) ≤ s.y - s.x / 2 ^ j; omega
    · show s.y - s.x / 2 ^ j ≤ 2 * ((s.x + s.y / 2 ^ j) / 2 ^ (j + 1)) + ((j + 1 : Nat) : Int); omega
  · rename_i hy
    have q0 : s.y / 2 ^ j < 0 := Int.ediv_neg_of_neg_of_pos (by omega) hT
    have q1 : -((2 * (s.x / 2 ^ j) + j) / 2 ^ j) - 1 ≤ s.y / 2 ^ j := by
      obtain ⟨r, e, r0, r1⟩ := div_pow (x := s.y) j
      obtain ⟨r', e', r0', r1'⟩ := div_pow (x := 2 * (s.x / 2 ^ j) + j) j
      refine Int.not_lt.1 (fun hc => ?_)
      have : 2 ^ j * (s.y / 2 ^ j) ≤ 2 ^ j * (-((2 * (s.x / 2 ^ j) + j) / 2 ^ j) - 2) := Int.mul_le_mul_of_nonneg_left (by omega) (by omega)
      rw [Int.mul_sub, Int.mul_neg] at this
      omega
    have hx' : s.x / 2 ^ (j + 1) ≤ (s.x - s.y / 2 ^ j) / 2 ^ (j + 1) := Int.ediv_le_ediv (Int.pow_pos (by decide)) (by omega)
    rw [half_div] at hx'
    refine ⟨?_, ?_, ?_, ?_⟩
    · show 268435456 ≤ s.x - s.y / 2 ^ j; omega
    · show s.x - s.y / 2 ^ j ≤ capX (j + 1); omega
    · show -(2 * ((s.x - s.y / 2 ^ j) / 2 ^ (j + 1)) + ((j + 1 : Nat) : Int)) ≤ s.y + s.x / 2 ^ j; omega
    · show s.y + s.x / 2 ^ j ≤ 2 * ((s.x - s.y / 2 ^ j) / 2 ^ (j + 1)) + ((j + 1 : Nat) : Int); omega
theorem good_all {x y : Int} (hx : 268435456 ≤ x ∧ x ≤ 536870912) (hy : 0 ≤ y ∧ y ≤ x) : ∀ j, Good j (tu x y j)
  | 0 => ⟨hx.1, hx.2, by show -(2 * (x / 1) + 0) ≤ y; omega, by show y ≤ 2 * (x / 1) + 0; omega⟩
  | 1 => by
    have e : tu x y 1 = ⟨x + y / 2 ^ 0, y - x / 2 ^ 0, 0 + tabN 0, 0⟩ := by
      show tuStep 0 ⟨x, y, 0, 0⟩ = _
      unfold tuStep
      rw [if_pos (show 0 ≤ y from hy.1)]
    rw [e]
    refine ⟨?_, ?_, ?_, ?_⟩
    · show 268435456 ≤ x + y / 2 ^ 0; omega
    · show x + y / 2 ^ 0 ≤ 1073741824; omega
    · show -(2 * ((x + y / 2 ^ 0) / 2 ^ 1) + ((1 : Nat) : Int)) ≤ y - x / 2 ^ 0; omega
    · show y - x / 2 ^ 0 ≤ 2 * ((x + y / 2 ^ 0) / 2 ^ 1) + ((1 : Nat) : Int); omega
  | j + 2 => good_step (by omega) (good_all hx hy (j + 1))
/-- One rounding turns little. -/
theorem round_near {T X Y X' Y' rx ry qr qi : Int} (hT : 0 < T) (hX : 268435456 ≤ X) (hqr : qr = T * X + Y) (hqi : qi = X - T * Y)
    (h1 : T * X' = T * X + Y - ry) (h2 : T * Y' = T * Y - X + rx) (hrx : -T ≤ rx ∧ rx ≤ T) (hry : -T ≤ ry ∧ ry ≤ T) :
    Cone 9300000000000000000 ⟨X' * qr - Y' * qi, X' * qi + Y' * qr⟩ := by
  -- the length of q
  have eN : qr * qr + qi * qi = (T * T + 1) * (X * X + Y * Y) := by subst hqr hqi; clear h1 h2 hrx hry hT hX; grind
  have eR : T * (X' * qr - Y' * qi) = (qr * qr + qi * qi) - (ry * qr + rx * qi) := by
    have : T * (X' * qr - Y' * qi) = (T * X') * qr - (T * Y') * qi := by clear eN h1 h2 hqr hqi; grind
    rw [this, h1, h2, hqr, hqi]
    clear this eN h1 h2
    grind
  have eI : T * (X' * qi + Y' * qr) = rx * qr - ry * qi := by
    have : T * (X' * qi + Y' * qr) = (T * X') * qi + (T * Y') * qr := by clear eN h1 h2 hqr hqi eR; grind
    rw [this, h1, h2, hqr, hqi]
    clear this eN h1 h2 eR
    grind
  obtain ⟨L, hL⟩ : ∃ L : Int, L = (qr.natAbs : Int) + qi.natAbs := ⟨_, rfl⟩
  have a1 := ab (A := qr) (B := ry) (b := T) (by omega)
  have a2 := ab (A := qi) (B := rx) (b := T) (by omega)
  have a3 := ab (A := qr) (B := rx) (b := T) (by omega)
  have a4 := ab (A := qi) (B := ry) (b := T) (by omega)
  have eL : (qr.natAbs : Int) * T + qi.natAbs * T = T * L := by rw [hL]; clear a1 a2 a3 a4 eR eI eN; grind
  have c1 : qr * ry = ry * qr := Int.mul_comm _ _
  have c2 : qi * rx = rx * qi := Int.mul_comm _ _
  have c3 : qr * rx = rx * qr := Int.mul_comm _ _
  have c4 : qi * ry = ry * qi := Int.mul_comm _ _
  have n1 : (qr.natAbs : Int) * qr.natAbs = qr * qr := Int.natAbs_mul_self
  have n2 : (qi.natAbs : Int) * qi.natAbs = qi * qi := Int.natAbs_mul_self
  have hL0 : 0 ≤ L := by omega
  -- L is long
  have hTX : 0 < T * X := Int.mul_pos hT (by omega)
  have hLT : T * X ≤ L := by
    refine Int.not_lt.1 (fun hc => ?_)
    have g : L * L < T * X * (T * X) := Int.mul_lt_mul' (Int.le_of_lt hc) hc hL0 hTX
    have gg : qr * qr + qi * qi ≤ L * L := by
      have : L * L = qr.natAbs * qr.natAbs + qi.natAbs * qi.natAbs + 2 * (qr.natAbs * qi.natAbs) := by rw [hL]; clear a1 a2 a3 a4 eR eI eN g; grind
      have p : (0 : Int) ≤ qr.natAbs * qi.natAbs := Int.mul_nonneg (by omega) (by omega)
      omega
    have e : (T * T + 1) * (X * X + Y * Y) = T * X * (T * X) + T * Y * (T * Y) + X * X + Y * Y := by clear a1 a2 a3 a4 eR eI eN g gg; grind
    have s1 := sq_nonneg (T * Y)
    have s2 := sq_nonneg X
    have s3 := sq_nonneg Y
    omega
  have hLL : L * L ≤ 2 * (qr * qr + qi * qi) := by
    have s := sq_nonneg ((qr.natAbs : Int) - qi.natAbs)
    have e : ((qr.natAbs : Int) - qi.natAbs) * ((qr.natAbs : Int) - qi.natAbs) + L * L = 2 * (qr.natAbs * qr.natAbs + qi.natAbs * qi.natAbs) := by rw [hL]; clear a1 a2 a3 a4 eR eI eN s; grind
    omega
  have hN : T * 268435456 * L ≤ 2 * (qr * qr + qi * qi) := by
    have g1 : T * 268435456 ≤ L := Int.le_trans (Int.mul_le_mul_of_nonneg_left hX (Int.le_of_lt hT)) hLT
    exact Int.le_trans (Int.mul_le_mul_of_nonneg_right g1 hL0) hLL
  have eT : T * 268435456 * L = 268435456 * (T * L) := by clear a1 a2 a3 a4 eR eI eN hN; grind
  rw [eT] at hN
  have hTL : 0 < T * L := Int.mul_pos hT (by omega)
  generalize qr * qr + qi * qi = N at *
  generalize hR : X' * qr - Y' * qi = R at *
  generalize hI : X' * qi + Y' * qr = I at *
  -- T R and T I
  have k1 : -(T * L) ≤ ry * qr + rx * qi ∧ ry * qr + rx * qi ≤ T * L := by omega
  have k2 : -(T * L) ≤ rx * qr - ry * qi ∧ rx * qr - ry * qi ≤ T * L := by omega
  have r0 : 0 < T * R := by omega
  have hRp : 0 < R := by
    refine Int.not_le.1 (fun hc => ?_)
    have := Int.mul_nonpos_of_nonneg_of_nonpos (Int.le_of_lt hT) hc
    omega
  refine ⟨hRp, ?_, ?_⟩
  · show -(9300000000000000000 * R) ≤ DD * I
    have : T * (-(9300000000000000000 * R)) ≤ T * (DD * I) := by
      have e1 : T * (-(9300000000000000000 * R)) = -(9300000000000000000 * (T * R)) := by clear a1 a2 a3 a4 eR eI eN hN k1 k2 r0; grind
      have e2 : T * (DD * I) = DD * (T * I) := Int.mul_left_comm _ _ _
      rw [e1, e2, eI, eR]
      unfold DD
      omega
    exact Int.le_of_mul_le_mul_left this hT
  · show DD * I ≤ 9300000000000000000 * R
    have : T * (DD * I) ≤ T * (9300000000000000000 * R) := by
      have e1 : T * (9300000000000000000 * R) = 9300000000000000000 * (T * R) := Int.mul_left_comm _ _ _
      have e2 : T * (DD * I) = DD * (T * I) := Int.mul_left_comm _ _ _
      rw [e1, e2, eI, eR]
      unfold DD
      omega
    exact Int.le_of_mul_le_mul_left this hT
theorem G.by_by (k l : Int) (a : G) : (a.by k).by l = a.by (l * k) := by apply G.ext_ <;> unfold G.by <;> simp only [] <;> rw [Int.mul_assoc]
theorem rearrange (V' K V A B C D : G) : (((V'.mul K).mul V.conj).mul (A.mul K.conj)).mul (((V.mul B).mul C).mul D) = (((V'.mul (B.mul A)).mul C).mul D).by (K.sq * V.sq) := by
  have e : (((V'.mul K).mul V.conj).mul (A.mul K.conj)).mul (((V.mul B).mul C).mul D) = (K.mul K.conj).mul ((V.mul V.conj).mul (((V'.mul (B.mul A)).mul C).mul D)) := by ac_rfl
  rw [e, G.mul_conj, G.mul_conj, G.real_mul, G.real_mul, G.by_by]
theorem rearrange2 (V' K V A B C D : G) : (((V'.mul K.conj).mul V.conj).mul (A.mul K)).mul (((V.mul B).mul C).mul D) = (((V'.mul B).mul (C.mul A)).mul D).by (K.sq * V.sq) := by
  have e : (((V'.mul K.conj).mul V.conj).mul (A.mul K)).mul (((V.mul B).mul C).mul D) = (K.mul K.conj).mul ((V.mul V.conj).mul (((V'.mul B).mul (C.mul A)).mul D)) := by ac_rfl
  rw [e, G.mul_conj, G.mul_conj, G.real_mul, G.real_mul, G.by_by]
/-- Turning back the place behind. -/
def back (s : Tu) (v0 : G) : G := (((G.mk s.x s.y).mul (P s.p)).mul (P s.m).conj).mul v0.conj
theorem sq_pos_of {a b : Int} (h : 0 < a) : 0 < (G.mk a b).sq := by
  have h1 : 0 < a * a := Int.mul_pos h h
  have h2 := sq_nonneg b
  show 0 < a * a + b * b
  omega
/-- How far off it may be behind each step. -/
def offI (j : Nat) : Int := j * 10700001000000000000
theorem back_step {j : Nat} (hj : j < 28) {s : Tu} {v0 : G} (hg : Good j s) (h : Cone (offI j) (back s v0)) : Cone (offI (j + 1)) (back (tuStep j s) v0) := by
  have hT : (0 : Int) < 2 ^ j := Int.pow_pos (by decide)
  have ht := tab_near j hj
  have ho : 0 ≤ offI j ∧ offI j ≤ 299600028000000000000 := by unfold offI; omega
  have ho1 : offI (j + 1) = offI j + 10700001000000000000 := by unfold offI; omega
  obtain ⟨ry, ey, ry0, ry1⟩ := div_pow (x := s.y) j
  obtain ⟨rx, ex, rx0, rx1⟩ := div_pow (x := s.x) j
  have hKT : 0 < (G.mk (2 ^ j) 1).sq := sq_pos_of hT
  have hv : 0 < (G.mk s.x s.y).sq := sq_pos_of (by have := hg.lo; omega)
  rw [ho1]
  unfold tuStep
  split
  · have c := round_near (T := 2 ^ j) (X := s.x) (Y := s.y) (X' := s.x + s.y / 2 ^ j) (Y' := s.y - s.x / 2 ^ j) (rx := rx) (ry := ry) (qr := 2 ^ j * s.x + s.y) (qi := s.x - 2 ^ j * s.y) hT hg.lo rfl rfl
      (by rw [Int.mul_add]; omega) (by rw [Int.mul_sub]; omega) (by omega) (by omega)
    have e1 : (G.mk ((s.x + s.y / 2 ^ j) * (2 ^ j * s.x + s.y) - (s.y - s.x / 2 ^ j) * (s.x - 2 ^ j * s.y)) ((s.x + s.y / 2 ^ j) * (s.x - 2 ^ j * s.y) + (s.y - s.x / 2 ^ j) * (2 ^ j * s.x + s.y))) = ((G.mk (s.x + s.y / 2 ^ j) (s.y - s.x / 2 ^ j)).mul (G.mk (2 ^ j) 1)).mul (G.mk s.x s.y).conj := by
      clear c h ht ex ey ry0 ry1 rx0 rx1 hv hKT hg
      generalize s.y / 2 ^ j = fy at *
      generalize s.x / 2 ^ j = fx at *
      generalize (2 : Int) ^ j = T at *
      apply G.ext_ <;> unfold G.mul G.conj <;> simp only [] <;> grind
    rw [e1] at c
    have c1 := (c.mul' ht (by decide) (by decide)).mul' h (by decide) (by omega)
    unfold back at c1 ⊢
    rw [rearrange, ← P_add] at c1
    exact (c1.of_by (Int.mul_pos hKT hv)).mono (by omega)
  · have c := round_near (T := 2 ^ j) (X := s.x) (Y := -s.y) (X' := s.x - s.y / 2 ^ j) (Y' := -(s.y + s.x / 2 ^ j)) (rx := rx) (ry := -ry) (qr := 2 ^ j * s.x - s.y) (qi := s.x + 2 ^ j * s.y) hT hg.lo (by omega) (by rw [Int.mul_neg]; omega)
      (by rw [Int.mul_sub]; omega) (by rw [Int.mul_neg, Int.mul_neg, Int.mul_add]; omega) (by omega) (by omega)
    have e1 : (G.mk ((s.x - s.y / 2 ^ j) * (2 ^ j * s.x - s.y) - -(s.y + s.x / 2 ^ j) * (s.x + 2 ^ j * s.y)) ((s.x - s.y / 2 ^ j) * (s.x + 2 ^ j * s.y) + -(s.y + s.x / 2 ^ j) * (2 ^ j * s.x - s.y))).conj = ((G.mk (s.x - s.y / 2 ^ j) (s.y + s.x / 2 ^ j)).mul (G.mk (2 ^ j) 1).conj).mul (G.mk s.x s.y).conj := by
      clear c h ht ex ey ry0 ry1 rx0 rx1 hv hKT hg
      generalize s.y / 2 ^ j = fy at *
      generalize s.x / 2 ^ j = fx at *
      generalize (2 : Int) ^ j = T at *
      apply G.ext_ <;> unfold G.mul G.conj <;> simp only [] <;> grind
    have c := c.conj
    rw [e1] at c
    have ht2 := ht.conj
    rw [G.conj_mul, G.conj_conj] at ht2
    have c1 := (c.mul' ht2 (by decide) (by decide)).mul' h (by decide) (by omega)
    unfold back at c1 ⊢
    rw [rearrange2, ← G.conj_mul, ← P_add] at c1
    exact (c1.of_by (Int.mul_pos hKT hv)).mono (by omega)
theorem back_all {x y : Int} (hx : 268435456 ≤ x ∧ x ≤ 536870912) (hy : 0 ≤ y ∧ y ≤ x) : ∀ j, j ≤ 28 → Cone (offI j) (back (tu x y j) ⟨x, y⟩)
  | 0 => fun _ => by
    have e : back (tu x y 0) ⟨x, y⟩ = ⟨(G.mk x y).sq, 0⟩ := by
      show (((G.mk x y).mul ⟨1, 0⟩).mul (G.mk 1 0).conj).mul (G.mk x y).conj = _
      rw [show (G.mk 1 0).conj = G.mk 1 0 from rfl, G.mul_comm (G.mk x y), G.one_mul, G.mul_comm (G.mk x y), G.one_mul, G.mul_conj]
    rw [e]
    have : 0 < (G.mk x y).sq := sq_pos_of (by omega)
    exact ⟨this, by show -(0 * _) ≤ DD * 0; simp, by show DD * 0 ≤ 0 * _; simp⟩
  | j + 1 => fun h => back_step (by omega) (good_all hx hy j) (back_all hx hy j (by omega))
/-- The angle's direction is the place's. -/
theorem turn_near {x y : Int} (hx : 268435456 ≤ x ∧ x ≤ 536870912) (hy : 0 ≤ y ∧ y ≤ x) :
    Cone 494000000000000000000 (((P (tu x y 28).p).mul (P (tu x y 28).m).conj).mul (G.mk x y).conj) := by
  have h := back_all hx hy 28 (by omega)
  have g := good_all hx hy 28
  obtain ⟨g1, g2, g3, g4⟩ := g
  have hc := capX_28 28 (by omega)
  rw [show (2 : Int) ^ 28 = 268435456 by decide] at g3 g4
  generalize tu x y 28 = s at *
  have hs : Cone 194000000000000000000 (G.mk s.x s.y).conj := by
    refine ⟨by show 0 < s.x; omega, ?_, ?_⟩
    · show -(194000000000000000000 * s.x) ≤ DD * -s.y
      unfold DD; omega
    · show DD * -s.y ≤ 194000000000000000000 * s.x
      unfold DD; omega
  have c := h.mul' hs (by decide) (by decide)
  have e : (back s ⟨x, y⟩).mul (G.mk s.x s.y).conj = (((P s.p).mul (P s.m).conj).mul (G.mk x y).conj).by (G.mk s.x s.y).sq := by
    unfold back
    rw [← G.real_mul, ← G.mul_conj]
    ac_rfl
  rw [e] at c
  exact (c.of_by (sq_pos_of (by omega))).mono (by decide)
end Go.Proofs.YtbmfcedndbgpoaaGreat

/- The angle of a place lies in the place's direction. -/
namespace Go.Proofs.YtbmfcedndbgpoaaGreat
open Go.RowKit
set_option linter.unusedVariables false
/-- The turn by a number of parts, either way. -/
def PZ (a : Int) : G := (P a.toNat).mul (P (-a).toNat).conj
theorem PZ_pm (p m : Nat) : ∃ k : Int, 0 < k ∧ (P p).mul (P m).conj = (PZ ((p : Int) - m)).by k := by
  rcases Nat.le_total m p with h | h
  · refine ⟨(P m).sq, P_sq_pos m, ?_⟩
    obtain ⟨c, rfl⟩ := Nat.exists_eq_add_of_le h
    unfold PZ
    rw [show (((m + c : Nat) : Int) - m).toNat = c by omega, show (-(((m + c : Nat) : Int) - m)).toNat = 0 by omega, P_add, ← G.real_mul, ← G.mul_conj]
    rw [show (P 0).conj = G.mk 1 0 from rfl, G.mul_comm (P c) (G.mk 1 0), G.one_mul]
    ac_rfl
  · refine ⟨(P p).sq, P_sq_pos p, ?_⟩
    obtain ⟨c, rfl⟩ := Nat.exists_eq_add_of_le h
    unfold PZ
    rw [show ((p : Int) - ((p + c : Nat) : Int)).toNat = 0 by omega, show (-((p : Int) - ((p + c : Nat) : Int))).toNat = c by omega, P_add, G.conj_mul, ← G.real_mul, ← G.mul_conj]
    rw [show P 0 = G.mk 1 0 from rfl, G.one_mul]
    ac_rfl
theorem PZ_add (a b : Int) : ∃ k : Int, 0 < k ∧ (PZ a).mul (PZ b) = (PZ (a + b)).by k := by
  obtain ⟨k, hk, e⟩ := PZ_pm (a.toNat + b.toNat) ((-a).toNat + (-b).toNat)
  refine ⟨k, hk, ?_⟩
  rw [show ((a.toNat + b.toNat : Nat) : Int) - ((-a).toNat + (-b).toNat : Nat) = a + b by omega] at e
  rw [← e, P_add, P_add, G.conj_mul]
  unfold PZ
  ac_rfl
theorem PZ_neg (a : Int) : PZ (-a) = (PZ a).conj := by
  unfold PZ
  rw [G.conj_mul, G.conj_conj, Int.neg_neg, G.mul_comm]
theorem PZ_nat (n : Nat) : PZ n = P n := by
  unfold PZ
  rw [show ((n : Int)).toNat = n by omega, show (-(n : Int)).toNat = 0 by omega, show (P 0).conj = G.mk 1 0 from rfl, G.mul_comm, G.one_mul]
/-- A sum of angles lies in the product's direction. -/
theorem Cone.sum {d1 d2 : Int} {a b : Int} {u v : G} (h1 : Cone d1 ((PZ a).mul u)) (h2 : Cone d2 ((PZ b).mul v)) (h0 : 0 ≤ d1 ∧ d1 ≤ 4722366482869645213696) (h0' : 0 ≤ d2 ∧ d2 ≤ 4722366482869645213696) :
    Cone (d1 + d2 + 274877906944) ((PZ (a + b)).mul (u.mul v)) := by
  obtain ⟨k, hk, e⟩ := PZ_add a b
  have c := h1.mul' h2 h0 h0'
  have e2 : ((PZ a).mul u).mul ((PZ b).mul v) = ((PZ (a + b)).mul (u.mul v)).by k := by
    rw [← G.by_mul, ← e]
    ac_rfl
  rw [e2] at c
  exact c.of_by hk
theorem Cone.negate {d a : Int} {u : G} (h : Cone d ((PZ a).mul u)) : Cone d ((PZ (-a)).mul u.conj) := by
  have := h.conj
  rwa [G.conj_mul, ← PZ_neg] at this
/-- Small turns. -/
theorem P_small : ∀ n : Nat, n ≤ 268435456 → 0 < (P n).re ∧ 0 ≤ (P n).im ∧ (n : Int) * (P n).re ≤ 536870912 * (P n).im ∧ 536870912 * (P n).im ≤ 2 * n * (P n).re
  | 0, _ => by decide
  | n + 1, h => by
    obtain ⟨h1, h2, h3, h4⟩ := P_small n (by omega)
    have e1 : (P (n + 1)).re = 536870912 * (P n).re - (P n).im := by
      show (P n).re * 536870912 - (P n).im * 1 = _
      omega
    have e2 : (P (n + 1)).im = 536870912 * (P n).im + (P n).re := by
      show (P n).re * 1 + (P n).im * 536870912 = _
      omega
    rw [e1, e2]
    generalize (P n).re = R at *
    generalize (P n).im = I at *
    have hIR : I ≤ R := by
      have : 2 * (n : Int) * R ≤ 536870912 * R := Int.mul_le_mul_of_nonneg_right (by omega) (Int.le_of_lt h1)
      omega
    have hnI : 0 ≤ (n : Int) * I := Int.mul_nonneg (by omega) h2
    have hnI2 : ((n : Int) + 1) * I ≤ 268435456 * I := Int.mul_le_mul_of_nonneg_right (by omega) h2
    have d1 : ((n + 1 : Nat) : Int) * (536870912 * R - I) = 536870912 * (n * R) + 536870912 * R - n * I - I := by
      rw [Int.natCast_add]; grind
    have d2 : 2 * ((n + 1 : Nat) : Int) * (536870912 * R - I) = 2 * (536870912 * (n * R) + 536870912 * R - n * I - I) := by rw [Int.mul_assoc, d1]
    have d3 : 2 * (n : Int) * R = 2 * (n * R) := Int.mul_assoc _ _ _
    have d4 : ((n : Int) + 1) * I = n * I + I := by rw [Int.add_mul]; omega
    rw [d1, d2]
    rw [d3] at h4
    rw [d4] at hnI2
    generalize (n : Int) * R = nR at *
    generalize (n : Int) * I = nI at *
    refine ⟨by omega, by omega, by omega, by omega⟩
/-- A turn that is nearly none is short. -/
theorem short_turn {d : Int} {n : Nat} (h : Cone d (P n)) (hn : n ≤ 268435456) : (n : Int) * DD ≤ 536870912 * d := by
  obtain ⟨h1, h2, h3, h4⟩ := P_small n hn
  obtain ⟨c1, c2, c3⟩ := h
  have hD : 0 < DD := DD_pos
  have s1 : DD * ((n : Int) * (P n).re) ≤ DD * (536870912 * (P n).im) := Int.mul_le_mul_of_nonneg_left h3 (Int.le_of_lt hD)
  have e1 : DD * ((n : Int) * (P n).re) = (n : Int) * DD * (P n).re := by grind
  have e2 : DD * (536870912 * (P n).im) = 536870912 * (DD * (P n).im) := Int.mul_left_comm _ _ _
  have e3 : 536870912 * (d * (P n).re) = 536870912 * d * (P n).re := (Int.mul_assoc _ _ _).symm
  rw [e1, e2] at s1
  have s2 : (n : Int) * DD * (P n).re ≤ 536870912 * d * (P n).re := by rw [← e3]; omega
  exact Int.le_of_mul_le_mul_right s2 h1
/-- The quarters' directions. -/
def chkAt (n : Nat) (v : G) : Bool := let r := ap 40 n; r.2.2 && coneB 1300000000000000000 (r.1.mul v.conj) && decide (r.2.1 ≤ 1000000000000)
theorem chkAt_spec {n : Nat} {v : G} (h : chkAt n v = true) : Cone 1400000000000000000 ((P n).mul v.conj) := by
  unfold chkAt at h
  simp only [Bool.and_eq_true, decide_eq_true_eq] at h
  obtain ⟨⟨h1, h2⟩, h3⟩ := h
  exact (P_near 1300000000000000000 h1 h2 (by decide) (by omega)).mono (by omega)
theorem at_right : Cone 1400000000000000000 ((PZ 843314857).mul (G.mk 0 1).conj) := by
  have h := chkAt_spec (n := 843314857) (v := ⟨0, 1⟩) (by decide +kernel)
  rwa [← PZ_nat] at h
theorem at_pi : Cone 1400000000000000000 ((PZ 1686629713).mul (G.mk (-1) 0).conj) := by
  have h := chkAt_spec (n := 1686629713) (v := ⟨-1, 0⟩) (by decide +kernel)
  rwa [← PZ_nat] at h
theorem at_2pi : Cone 1400000000000000000 ((PZ 3373259426).mul (G.mk 1 0).conj) := by
  have h := chkAt_spec (n := 3373259426) (v := ⟨1, 0⟩) (by decide +kernel)
  rwa [← PZ_nat] at h
/-- Half turns, of 1/2 each: sixteen bits of their directions. -/
def halfs : List G := [⟨57514, 31420⟩, ⟨35409, 55147⟩, ⟨4636, 65372⟩, ⟨-27273, 59592⟩, ⟨-52503, 39222⟩, ⟨-64880, 9248⟩]
def chkHalf (k : Nat) : Bool := let r := ap 40 ((k + 1) * 268435456); r.2.2 && coneB 100000000000000000000000 (r.1.mul (halfs.getD k ⟨1, 0⟩).conj) && decide (r.2.1 ≤ 1000000000000)
theorem chkHalf_all : ∀ k : Nat, k < 6 → chkHalf k = true := by decide +kernel
theorem half_near (k : Nat) (hk : k < 6) : Cone 100000001000000000000000 ((P ((k + 1) * 268435456)).mul (halfs.getD k ⟨1, 0⟩).conj) := by
  have h := chkHalf_all k hk
  unfold chkHalf at h
  simp only [Bool.and_eq_true, decide_eq_true_eq] at h
  obtain ⟨⟨h1, h2⟩, h3⟩ := h
  obtain ⟨s1, s2, s3⟩ := ap_spec 40 _ h1
  have c := s3.mul (d3 := 100000001000000000000000) (coneB_spec h2) (by unfold DD; omega) (by decide) (by
    generalize (ap 40 ((k + 1) * 268435456)).2.1 = e at *
    unfold DD
    omega)
  rw [G.re_mul_conj] at c
  exact c.of_by s2
theorem far_dir {a b R I d : Int} (hd : 0 ≤ d ∧ d ≤ 18889465931478580854784) (r1 : 0 < R) (r2 : 0 ≤ I) (ha : 0 < a) (hb : a ≤ 2 * b) (c3 : DD * (a * I + b * R) ≤ d * (a * R - b * I)) : False := by
  have e0 : 0 < a * R := Int.mul_pos ha r1
  have e1 : 0 ≤ a * I := Int.mul_nonneg (Int.le_of_lt ha) r2
  have e2 : 0 ≤ b * I := Int.mul_nonneg (by omega) r2
  have e3 : a * R ≤ 2 * (b * R) := by
    have := Int.mul_le_mul_of_nonneg_right hb (Int.le_of_lt r1)
    rwa [Int.mul_assoc] at this
  have e4 : d * (a * R - b * I) ≤ d * (a * R) := Int.mul_le_mul_of_nonneg_left (by omega) hd.1
  have e5 : d * (a * R) ≤ 18889465931478580854784 * (a * R) := Int.mul_le_mul_of_nonneg_right hd.2 (Int.le_of_lt e0)
  unfold DD at c3
  generalize a * R = x at *
  generalize a * I = y at *
  generalize b * I = z at *
  generalize b * R = t at *
  omega
theorem back_dir {a b R I : Int} (r1 : 0 < R) (r2 : 0 ≤ I) (ha : a < 0) (hb : 0 < b) (c1 : 0 < a * R - b * I) : False := by
  have e0 : a * R < 0 := Int.mul_neg_of_neg_of_pos ha r1
  have e2 : 0 ≤ b * I := Int.mul_nonneg (by omega) r2
  omega
/-- A turn between 1/2 and 7/2 is not nearly none. -/
theorem long_turn {d : Int} {n : Nat} (hd : 0 ≤ d ∧ d ≤ 18889465931478580854784) (h0 : 268435456 ≤ n) (h1 : n < 7 * 268435456) : ¬ Cone d (P n) := by
  intro hc
  obtain ⟨k, r, rfl, hk, hr⟩ : ∃ k r, n = (k + 1) * 268435456 + r ∧ k < 6 ∧ r ≤ 268435456 := ⟨n / 268435456 - 1, n % 268435456, by omega, by omega, by omega⟩
  have hn := half_near k hk
  obtain ⟨r1, r2, r3, r4⟩ := P_small r hr
  rw [P_add] at hc
  obtain ⟨n1, n2, n3⟩ := hn
  obtain ⟨c1, c2, c3⟩ := hc
  generalize P ((k + 1) * 268435456) = A at *
  generalize P r = B at *
  obtain ⟨a, b⟩ := A
  obtain ⟨R, I⟩ := B
  simp only [G.mul, G.conj] at n1 n2 n3 c1 c2 c3 r1 r2
  clear r3 r4 c2
  rcases (by omega : k = 0 ∨ k = 1 ∨ k = 2 ∨ k = 3 ∨ k = 4 ∨ k = 5) with rfl | rfl | rfl | rfl | rfl | rfl <;> simp only [halfs, List.getD_cons_zero, List.getD_cons_succ] at n1 n2 n3 <;> unfold DD at n2 n3
  · exact far_dir hd r1 r2 (by omega) (by omega) c3
  · exact far_dir hd r1 r2 (by omega) (by omega) c3
  · exact far_dir hd r1 r2 (by omega) (by omega) c3
  · exact back_dir r1 r2 (by omega) (by omega) c1
  · exact back_dir r1 r2 (by omega) (by omega) c1
  · exact back_dir r1 r2 (by omega) (by omega) c1
/-- A turn that is nearly none, of at most a half. -/
theorem near_none {d a : Int} (h : Cone d (PZ a)) (hd : 0 ≤ d ∧ d ≤ 18889465931478580854784) (ha : -1879048192 < a ∧ a < 1879048192) : -(536870912 * d) ≤ a * DD ∧ a * DD ≤ 536870912 * d := by
  have hD := DD_pos
  rcases Int.le_total 0 a with h0 | h0
  · obtain ⟨n, rfl⟩ := Int.eq_ofNat_of_zero_le h0
    rw [PZ_nat] at h
    have := short_turn h (Nat.le_of_not_lt fun hc => long_turn hd (by omega) (by omega) h)
    have : 0 ≤ (n : Int) * DD := Int.mul_nonneg h0 (by omega)
    omega
  · obtain ⟨n, hn⟩ := Int.eq_ofNat_of_zero_le (a := -a) (by omega)
    have h2 := h.conj
    rw [← PZ_neg, hn, PZ_nat] at h2
    have := short_turn h2 (Nat.le_of_not_lt fun hc => long_turn hd (by omega) (by omega) h2)
    have : 0 ≤ (n : Int) * DD := Int.mul_nonneg (by omega) (by omega)
    rw [show a = -(n : Int) by omega, Int.neg_mul]
    omega
/-- Words that are turned. -/
def sumN : Nat → Nat
  | 0 => 0
  | j + 1 => sumN j + tabN j
theorem sumN_le : ∀ j : Nat, j ≤ 28 → sumN j ≤ 936000000 := by decide +kernel
theorem tabN_is : ∀ i : Nat, i < 28 → (turnsL.getD i (kW 0)).v = tabN i ∧ (tabN i : Int) ≤ 421657428 := by decide +kernel
theorem tu_sum (x y : Int) : ∀ j, (tu x y j).p + (tu x y j).m = sumN j
  | 0 => rfl
  | j + 1 => by
    have := tu_sum x y j
    show (tuStep j (tu x y j)).p + (tuStep j (tu x y j)).m = sumN j + tabN j
    unfold tuStep
    split <;> simp only [] <;> omega
theorem tu_m (x y : Int) (j : Nat) : ∀ k, (tu x y j).m ≤ (tu x y (j + k)).m ∧ (tu x y j).p ≤ (tu x y (j + k)).p
  | 0 => ⟨Nat.le_refl _, Nat.le_refl _⟩
  | k + 1 => by
    have := tu_m x y j k
    show (tu x y j).m ≤ (tuStep (j + k) (tu x y (j + k))).m ∧ (tu x y j).p ≤ (tuStep (j + k) (tu x y (j + k))).p
    unfold tuStep
    split <;> simp only [] <;> omega
theorem sar_is (y : Wd) (i : Nat) (hi : i ≤ 28) : (sarW y (kW i)).v = y.v / 2 ^ i := by
  show y.v / 2 ^ sh (kW i).v = _
  have : ∀ i : Nat, i ≤ 28 → sh (kW i).v = i := by decide +kernel
  rw [this i hi]
theorem div_bd {x : Int} (j : Nat) : (0 ≤ x → 0 ≤ x / 2 ^ j ∧ x / 2 ^ j ≤ x) ∧ (x < 0 → x ≤ x / 2 ^ j ∧ x / 2 ^ j < 0) := by
  have hT : (0 : Int) < 2 ^ j := Int.pow_pos (by decide)
  obtain ⟨r, e, r0, r1⟩ := div_pow (x := x) j
  constructor
  · intro h
    exact ⟨Int.ediv_nonneg h (by omega), Int.ediv_le_self _ h⟩
  · intro h
    refine ⟨?_, Int.ediv_neg_of_neg_of_pos h hT⟩
    have h2 : x / 2 ^ j < 0 := Int.ediv_neg_of_neg_of_pos h hT
    have h3 : (2 ^ j - 1) * (x / 2 ^ j) ≤ (2 ^ j - 1) * (-1) := Int.mul_le_mul_of_nonneg_left (by omega) (by omega)
    rw [Int.sub_mul] at h3
    omega
theorem turn_rep {x y : Wd} (hx : 268435456 ≤ x.v ∧ x.v ≤ 536870912) (hy : 0 ≤ y.v ∧ y.v ≤ x.v) : ∀ k, k ≤ 28 →
    (turnW x y k).a.v = (tu x.v y.v k).x ∧ (turnW x y k).b.v = (tu x.v y.v k).y ∧ (turnW x y k).c.v = ((tu x.v y.v k).p : Int) - (tu x.v y.v k).m
  | 0, _ => ⟨rfl, rfl, by show (kW 0).v = _; rw [kW_v (by decide)]; rfl⟩
  | k + 1, h => by
    obtain ⟨e1, e2, e3⟩ := turn_rep hx hy k (by omega)
    have g := good_all hx hy k
    have g' := good_all hx hy (k + 1)
    have s := tu_sum x.v y.v k
    have s' := tu_sum x.v y.v (k + 1)
    have c1 := capX_28 k (by omega)
    have c2 := capX_28 (k + 1) h
    have n1 := sumN_le k (by omega)
    have n2 := sumN_le (k + 1) h
    obtain ⟨t1, t2⟩ := tabN_is k (by omega)
    obtain ⟨l, hi, lo1, hi1⟩ := g
    obtain ⟨l', hi', lo1', hi1'⟩ := g'
    have m1 := ((div_bd (x := (tu x.v y.v k).x) k).1 (by omega))
    have m2 := ((div_bd (x := (tu x.v y.v (k + 1)).x) (k + 1)).1 (by omega))
    have yb : -2147483648 < (tu x.v y.v (k + 1)).y ∧ (tu x.v y.v (k + 1)).y < 2147483647 := by
      have : (tu x.v y.v (k + 1)).x / 2 ^ (k + 1) ≤ 1006632960 := by
        have h2 : (2 : Int) ≤ 2 ^ (k + 1) := by
          rw [Int.pow_succ]
          have : (0 : Int) < 2 ^ k := Int.pow_pos (by decide)
          omega
        obtain ⟨r, er, r0, r1⟩ := div_pow (x := (tu x.v y.v (k + 1)).x) (k + 1)
        have q : 2 * ((tu x.v y.v (k + 1)).x / 2 ^ (k + 1)) ≤ 2 ^ (k + 1) * ((tu x.v y.v (k + 1)).x / 2 ^ (k + 1)) := Int.mul_le_mul_of_nonneg_right h2 m2.1
        omega
      omega
    have ey : (tu x.v y.v (k + 1)) = tuStep k (tu x.v y.v k) := rfl
    show (turnStep k (turnW x y k).a (turnW x y k).b (turnW x y k).c).a.v = _ ∧ (turnStep k (turnW x y k).a (turnW x y k).b (turnW x y k).c).b.v = _ ∧ (turnStep k (turnW x y k).a (turnW x y k).b (turnW x y k).c).c.v = _
    generalize turnW x y k = W at *
    obtain ⟨Wa, Wb, Wc⟩ := W
    simp only [] at e1 e2 e3
    unfold turnStep
    simp only []
    generalize tu x.v y.v k = T at *
    generalize tu x.v y.v (k + 1) = T' at *
    have okb := Wb.ok
    unfold In32 at okb
    unfold tuStep at ey
    by_cases hs : 0 ≤ T.y
    · rw [if_pos hs] at ey
      subst ey
      simp only [] at *
      rw [sign_pos (by omega), flip_none, flip_none, flip_none]
      have b1 := (div_bd (x := T.y) k).1 hs
      refine ⟨?_, ?_, ?_⟩
      · rw [add_is (by unfold In32; rw [sar_is _ _ (by omega), e1, e2]; omega), sar_is _ _ (by omega), e1, e2]
      · rw [sub_is (by unfold In32; rw [sar_is _ _ (by omega), e1, e2]; omega), sar_is _ _ (by omega), e1, e2]
      · rw [add_is (by unfold In32; rw [t1, e3]; omega), t1, e3]; omega
    · rw [if_neg hs] at ey
      subst ey
      simp only [] at *
      rw [sign_neg (by omega)]
      have b1 := (div_bd (x := T.y) k).2 (by omega)
      have f1 : (flipW (sarW Wb (kW k)) (kW (-1))).v = -(T.y / 2 ^ k) := by rw [flip_all (by rw [sar_is _ _ (by omega), e2]; omega), sar_is _ _ (by omega), e2]
      have f2 : (flipW (sarW Wa (kW k)) (kW (-1))).v = -(T.x / 2 ^ k) := by rw [flip_all (by rw [sar_is _ _ (by omega), e1]; omega), sar_is _ _ (by omega), e1]
      have f3 : (flipW (turnsL.getD k (kW 0)) (kW (-1))).v = -(tabN k : Int) := by rw [flip_all (by rw [t1]; omega), t1]
      refine ⟨?_, ?_, ?_⟩
      · rw [add_is (by unfold In32; rw [f1, e1]; omega), f1, e1]; omega
      · rw [sub_is (by unfold In32; rw [f2, e2]; omega), f2, e2]; omega
      · rw [add_is (by unfold In32; rw [f3, e3]; omega), f3, e3]; omega
end Go.Proofs.YtbmfcedndbgpoaaGreat

/- The angle of any place: its direction, and its bounds. -/
namespace Go.Proofs.YtbmfcedndbgpoaaGreat
open Go.RowKit
set_option linter.unusedVariables false
theorem level_is {g : Wd} (hg : 0 < g.v) : ∃ T : Int, 0 < T ∧ 1073741824 ≤ g.v * T ∧ g.v * T < 2147483648 ∧ ∀ v : Wd, 0 ≤ v.v → v.v ≤ g.v → (levelW v (subW (clzW g) (kW 1))).v = v.v * T / 4 := by
  have ok := g.ok
  unfold In32 at ok
  obtain ⟨n, hn⟩ := Int.eq_ofNat_of_zero_le (a := g.v) (by omega)
  have n0 : n ≠ 0 := by omega
  have l1 := Nat.log2_self_le n0
  have l2 := Nat.lt_log2_self (n := n)
  have hk : n.log2 ≤ 30 := by
    refine Nat.le_of_lt_succ ((Nat.log2_lt n0).2 ?_)
    have : n < 2147483648 := by omega
    simpa using this
  obtain ⟨k, hk2⟩ : ∃ k, k = n.log2 := ⟨_, rfl⟩
  rw [← hk2] at l1 l2 hk
  have hc := clz_of (x := g) k (2 ^ k) hk rfl (by rw [hn]; exact_mod_cast l1) (by
    rw [hn]
    have : n < 2 * 2 ^ k := by rw [Nat.pow_succ] at l2; omega
    exact_mod_cast this)
  have hs : (subW (clzW g) (kW 1)).v = 30 - (k : Int) := by
    show wrap32 (clzI g.v - (kW 1).v) = _
    rw [hc, kW_v (by decide)]
    unfold wrap32; omega
  have hsh : sh (subW (clzW g) (kW 1)).v = 30 - k := by
    rw [hs]
    have : ∀ k : Nat, k ≤ 30 → sh (30 - (k : Int)) = 30 - k := by decide +kernel
    exact this k hk
  have e31 : (2 : Int) ^ k * 2 ^ (30 - k) = 1073741824 := by
    rw [← Int.pow_add, show k + (30 - k) = 30 by omega]; decide
  have hT : (0 : Int) < 2 ^ (30 - k) := Int.pow_pos (by decide)
  have g1 : (2 : Int) ^ k ≤ g.v := by rw [hn]; exact_mod_cast l1
  have g2 : g.v < 2 * (2 : Int) ^ k := by
    rw [hn]
    have : n < 2 * 2 ^ k := by rw [Nat.pow_succ] at l2; omega
    exact_mod_cast this
  have b1 : 1073741824 ≤ g.v * 2 ^ (30 - k) := by rw [← e31]; exact Int.mul_le_mul_of_nonneg_right g1 (Int.le_of_lt hT)
  have b2 : g.v * 2 ^ (30 - k) < 2147483648 := by
    have : g.v * 2 ^ (30 - k) < 2 * (2 : Int) ^ k * 2 ^ (30 - k) := Int.mul_lt_mul_of_pos_right g2 hT
    rw [Int.mul_assoc, e31] at this
    omega
  refine ⟨2 ^ (30 - k), hT, b1, b2, fun v v0 v1 => ?_⟩
  have p0 : 0 ≤ v.v * 2 ^ (30 - k) := Int.mul_nonneg v0 (Int.le_of_lt hT)
  have p1 : v.v * 2 ^ (30 - k) ≤ g.v * 2 ^ (30 - k) := Int.mul_le_mul_of_nonneg_right v1 (Int.le_of_lt hT)
  show wrap32 (wrap32 (v.v % 4294967296 * 2 ^ sh (subW (clzW g) (kW 1)).v % 4294967296) % 4294967296 / 2 ^ sh (kW 2).v) = _
  rw [hsh, show sh (kW 2).v = 2 by decide +kernel, show ((2 : Int) ^ 2) = 4 by decide, show v.v % 4294967296 = v.v by omega]
  generalize v.v * 2 ^ (30 - k) = V at *
  unfold wrap32
  omega
theorem abs_is {x : Wd} (h : -2147483648 < x.v) : (absW x).v = x.v.natAbs := by
  have := x.ok
  unfold In32 at this
  show max x.v (satI (-x.v)) = _
  unfold satI
  omega
/-- The turned angle, ahead of the quarters. -/
theorem angleA_near {g l : Wd} (hg : 0 < g.v) (hl : 0 ≤ l.v ∧ l.v ≤ g.v) :
    ∃ a : Int, (turnW (levelW g (subW (clzW g) (kW 1))) (levelW l (subW (clzW g) (kW 1))) 28).c.v = a ∧ Cone 497600000000000000000 ((PZ a).mul (G.mk g.v l.v).conj) ∧ -216 ≤ a ∧ a ≤ 700000000 := by
  obtain ⟨T, hT, b1, b2, hv⟩ := level_is hg
  have eg := hv g (by omega) (Int.le_refl _)
  have el := hv l hl.1 hl.2
  have pl0 : 0 ≤ l.v * T := Int.mul_nonneg hl.1 (Int.le_of_lt hT)
  have pl1 : l.v * T ≤ g.v * T := Int.mul_le_mul_of_nonneg_right hl.2 (Int.le_of_lt hT)
  generalize levelW g (subW (clzW g) (kW 1)) = X at *
  generalize levelW l (subW (clzW g) (kW 1)) = Y at *
  have hX : 268435456 ≤ X.v ∧ X.v ≤ 536870912 := by rw [eg]; omega
  have hY : 0 ≤ Y.v ∧ Y.v ≤ X.v := by rw [eg, el]; omega
  obtain ⟨_, _, hc⟩ := turn_rep hX hY 28 (by omega)
  have hn := turn_near hX hY
  refine ⟨_, hc, ?_, ?_, ?_⟩
  all_goals
    have hlev : Cone 3500000000000000000 ((G.mk X.v Y.v).mul (G.mk g.v l.v).conj) := by
      obtain ⟨r1, hr1⟩ : ∃ r, r = g.v * T - 4 * X.v := ⟨_, rfl⟩
      obtain ⟨r2, hr2⟩ : ∃ r, r = l.v * T - 4 * Y.v := ⟨_, rfl⟩
      have i1 : 0 ≤ r1 ∧ r1 ≤ 3 := by omega
      have i2 : 0 ≤ r2 ∧ r2 ≤ 3 := by omega
      have eR : 4 * (X.v * g.v - Y.v * -l.v) = g.v * (g.v * T) + l.v * (l.v * T) - r1 * g.v - r2 * l.v := by rw [hr1, hr2]; clear hn hc hX hY b1 b2 pl0 pl1 i1 i2 hr1 hr2 eg el; grind
      have eI : 4 * (X.v * -l.v + Y.v * g.v) = r1 * l.v - r2 * g.v := by rw [hr1, hr2]; clear hn hc hX hY b1 b2 pl0 pl1 i1 i2 hr1 hr2 eg el eR; grind
      have m1 : 0 ≤ r1 * g.v ∧ r1 * g.v ≤ 3 * g.v := ⟨Int.mul_nonneg i1.1 (by omega), Int.mul_le_mul_of_nonneg_right i1.2 (by omega)⟩
      have m2 : 0 ≤ r2 * l.v ∧ r2 * l.v ≤ 3 * l.v := ⟨Int.mul_nonneg i2.1 (by omega), Int.mul_le_mul_of_nonneg_right i2.2 (by omega)⟩
      have m3 : 0 ≤ r1 * l.v ∧ r1 * l.v ≤ 3 * l.v := ⟨Int.mul_nonneg i1.1 (by omega), Int.mul_le_mul_of_nonneg_right i1.2 (by omega)⟩
      have m4 : 0 ≤ r2 * g.v ∧ r2 * g.v ≤ 3 * g.v := ⟨Int.mul_nonneg i2.1 (by omega), Int.mul_le_mul_of_nonneg_right i2.2 (by omega)⟩
      have m5 : g.v * 1073741824 ≤ g.v * (g.v * T) := Int.mul_le_mul_of_nonneg_left b1 (by omega)
      have m6 : 0 ≤ l.v * (l.v * T) := Int.mul_nonneg hl.1 pl0
      refine ⟨?_, ?_, ?_⟩
      · show 0 < X.v * g.v - Y.v * -l.v
        omega
      · show -(3500000000000000000 * (X.v * g.v - Y.v * -l.v)) ≤ DD * (X.v * -l.v + Y.v * g.v)
        unfold DD; omega
      · show DD * (X.v * -l.v + Y.v * g.v) ≤ 3500000000000000000 * (X.v * g.v - Y.v * -l.v)
        unfold DD; omega
    have hA : Cone 497600000000000000000 ((PZ ((tu X.v Y.v 28).p - (tu X.v Y.v 28).m)).mul (G.mk g.v l.v).conj) := by
      obtain ⟨k, hk, e⟩ := PZ_pm (tu X.v Y.v 28).p (tu X.v Y.v 28).m
      have c := hn.mul' hlev (by decide) (by decide)
      rw [G.re_mul_conj] at c
      have c2 := c.of_by (sq_pos_of (by omega))
      rw [e, G.by_mul] at c2
      exact (c2.of_by hk).mono (by decide)
  · exact hA
  · -- from below
    have s := tu_sum X.v Y.v 28
    have p1 := (tu_m X.v Y.v 1 27).2
    have f1 : (tu X.v Y.v 1).p = 421657428 := by
      show (tuStep 0 ⟨X.v, Y.v, 0, 0⟩).p = _
      unfold tuStep
      rw [if_pos (show 0 ≤ Y.v from hY.1)]
      show 0 + tabN 0 = 421657428
      decide +kernel
    have st : sumN 28 = sumN 28 := rfl
    have n1 := sumN_le 28 (by omega)
    rw [show 1 + 27 = 28 from rfl] at p1
    refine Int.not_lt.1 (fun hneg => ?_)
    obtain ⟨n, hnn⟩ := Int.eq_ofNat_of_zero_le (a := -(((tu X.v Y.v 28).p : Int) - (tu X.v Y.v 28).m)) (by omega)
    have h2 := hA.negate
    rw [hnn, PZ_nat, G.conj_conj] at h2
    obtain ⟨q1, q2, q3, q4⟩ := P_small n (by omega)
    obtain ⟨c1, c2, c3⟩ := h2
    have hD := DD_pos
    have e1 : ((P n).mul (G.mk g.v l.v)).re = (P n).re * g.v - (P n).im * l.v := rfl
    have e2 : ((P n).mul (G.mk g.v l.v)).im = (P n).re * l.v + (P n).im * g.v := rfl
    rw [e1, e2] at c3
    have w1 : 0 ≤ (P n).re * l.v := Int.mul_nonneg (Int.le_of_lt q1) hl.1
    have w2 : 0 ≤ (P n).im * l.v := Int.mul_nonneg q2 hl.1
    have w3 : (n : Int) * (P n).re * g.v ≤ 536870912 * (P n).im * g.v := Int.mul_le_mul_of_nonneg_right q3 (by omega)
    have w4 : 0 < (P n).re * g.v := Int.mul_pos q1 hg
    have w5 : 217 * ((P n).re * g.v) ≤ (n : Int) * (P n).re * g.v := by
      rw [Int.mul_assoc]
      exact Int.mul_le_mul_of_nonneg_right (by omega) (Int.le_of_lt w4)
    rw [Int.mul_assoc 536870912] at w3
    generalize (n : Int) * (P n).re * g.v = z0 at *
    generalize (P n).re * g.v = z1 at *
    generalize (P n).im * g.v = z2 at *
    generalize (P n).re * l.v = z3 at *
    generalize (P n).im * l.v = z4 at *
    unfold DD at c3
    omega
  · -- from above
    have s := tu_sum X.v Y.v 28
    have n1 := sumN_le 28 (by omega)
    have m3 := (tu_m X.v Y.v 3 25).1
    rw [show 3 + 25 = 28 from rfl] at m3
    have f3 : 131521918 ≤ (tu X.v Y.v 3).m := by
      show 131521918 ≤ (tuStep 2 (tuStep 1 (tuStep 0 ⟨X.v, Y.v, 0, 0⟩))).m
      have t0 : tabN 0 = 421657428 := by decide +kernel
      have t1 : tabN 1 = 248918915 := by decide +kernel
      have t2 : tabN 2 = 131521918 := by decide +kernel
      have s0 : tuStep 0 ⟨X.v, Y.v, 0, 0⟩ = ⟨X.v + Y.v, Y.v - X.v, 421657428, 0⟩ := by
        unfold tuStep
        rw [if_pos (show 0 ≤ Y.v from hY.1)]
        simp [t0]
      rw [s0]
      by_cases hz : 0 ≤ Y.v - X.v
      · have s1 : tuStep 1 ⟨X.v + Y.v, Y.v - X.v, 421657428, 0⟩ = ⟨X.v + Y.v + (Y.v - X.v) / 2 ^ 1, Y.v - X.v - (X.v + Y.v) / 2 ^ 1, 421657428 + tabN 1, 0⟩ := by
          unfold tuStep
          rw [if_pos hz]
        rw [s1]
        unfold tuStep
        rw [if_neg (show ¬ 0 ≤ Y.v - X.v - (X.v + Y.v) / 2 ^ 1 by omega)]
        simp [t2]
      · have s1 : (tuStep 1 ⟨X.v + Y.v, Y.v - X.v, 421657428, 0⟩).m = tabN 1 := by
          unfold tuStep
          rw [if_neg hz]
          simp
        have := (tu_m X.v Y.v 2 1).1
        have e2 : (tu X.v Y.v 2).m = tabN 1 := by
          show (tuStep 1 (tuStep 0 ⟨X.v, Y.v, 0, 0⟩)).m = _
          rw [s0, s1]
        have e3 : (tu X.v Y.v (2 + 1)) = tuStep 2 (tuStep 1 ⟨X.v + Y.v, Y.v - X.v, 421657428, 0⟩) := by
          show tuStep 2 (tuStep 1 (tuStep 0 ⟨X.v, Y.v, 0, 0⟩)) = _
          rw [s0]
        rw [← e3]
        omega
    omega
/-- The angle of a place: in its direction, and within bounds. -/
theorem angle_near {y x : Wd} (hx : -2147483648 < x.v) (hy : -2147483648 < y.v) (h0 : x.v ≠ 0 ∨ y.v ≠ 0) :
    ∃ a : Int, (angleW y x).v = a ∧ Cone 502000000000000000000 ((PZ a).mul (G.mk x.v y.v).conj) ∧ -1686629929 ≤ a ∧ a ≤ 1686629929 ∧ (0 ≤ x.v → -843315073 ≤ a ∧ a ≤ 843315073) := by
  have ax := abs_is hx
  have ay := abs_is hy
  have okx := x.ok
  have oky := y.ok
  unfold In32 at okx oky
  -- the first octant
  have hA : ∃ b : Int, (angleB y x).v = b ∧ Cone 500000000000000000000 ((PZ b).mul (G.mk (x.v.natAbs : Int) y.v.natAbs).conj) ∧ -216 ≤ b ∧ b ≤ 843315073 := by
    have eM : (maxW (absW x) (absW y)).v = max (absW x).v (absW y).v := rfl
    have em : (minW (absW x) (absW y)).v = min (absW x).v (absW y).v := rfl
    obtain ⟨a, e, c, a0, a1⟩ := angleA_near (g := maxW (absW x) (absW y)) (l := minW (absW x) (absW y)) (by rw [eM]; omega) ⟨by rw [em]; omega, by rw [eM, em]; omega⟩
    have e' : (angleA y x).c.v = a := e
    by_cases h : (absW x).v < (absW y).v
    · unfold angleB angleBof
      rw [slt_yes h, sel_all]
      refine ⟨843314857 - a, ?_, ?_, by omega, by omega⟩
      · rw [sub_is (by rw [e', kW_v (by decide)]; unfold In32; omega), e', kW_v (by decide)]
      · rw [eM, em, show max (absW x).v (absW y).v = (y.v.natAbs : Int) by omega, show min (absW x).v (absW y).v = (x.v.natAbs : Int) by omega] at c
        have s := at_right.sum c.negate (by decide) (by decide)
        rw [show 843314857 + -a = 843314857 - a by omega, G.conj_conj] at s
        have eq : (G.mk 0 1).conj.mul (G.mk (y.v.natAbs : Int) x.v.natAbs) = (G.mk (x.v.natAbs : Int) y.v.natAbs).conj := by
          apply G.ext_ <;> unfold G.mul G.conj <;> simp only [] <;> omega
        rw [eq] at s
        exact s.mono (by decide)
    · unfold angleB angleBof
      rw [slt_no (by omega), sel_none]
      refine ⟨a, e', ?_, by omega, by omega⟩
      rw [eM, em, show max (absW x).v (absW y).v = (x.v.natAbs : Int) by omega, show min (absW x).v (absW y).v = (y.v.natAbs : Int) by omega] at c
      exact c.mono (by decide)
  obtain ⟨b, e, c, b0, b1⟩ := hA
  -- left and right
  have hC : ∃ d : Int, (angleC y x).v = d ∧ Cone 501700000000000000000 ((PZ d).mul (G.mk x.v (y.v.natAbs : Int)).conj) ∧ -216 ≤ d ∧ d ≤ 1686629929 ∧ (0 ≤ x.v → d ≤ 843315073) := by
    by_cases h : x.v < 0
    · unfold angleC angleCof
      rw [sign_neg h, sel_all]
      refine ⟨1686629713 - b, ?_, ?_, by omega, by omega, by omega⟩
      · rw [sub_is (by rw [e, kW_v (by decide)]; unfold In32; omega), e, kW_v (by decide)]
      · have s := at_pi.sum c.negate (by decide) (by decide)
        rw [show 1686629713 + -b = 1686629713 - b by omega, G.conj_conj] at s
        have eq : (G.mk (-1) 0).conj.mul (G.mk (x.v.natAbs : Int) y.v.natAbs) = (G.mk x.v (y.v.natAbs : Int)).conj := by
          apply G.ext_ <;> unfold G.mul G.conj <;> simp only [] <;> omega
        rw [eq] at s
        exact s.mono (by decide)
    · unfold angleC angleCof
      rw [sign_pos (by omega), sel_none]
      refine ⟨b, e, ?_, by omega, by omega, by omega⟩
      rw [show (x.v.natAbs : Int) = x.v by omega] at c
      exact c.mono (by decide)
  obtain ⟨d, e, c, d0, d1, d2⟩ := hC
  by_cases h : y.v < 0
  · unfold angleW
    rw [sign_neg h]
    refine ⟨-d, ?_, ?_, by omega, by omega, by omega⟩
    · rw [flip_all (by rw [e]; omega), e]
    · have s := c.negate
      rw [G.conj_conj, show G.mk x.v (y.v.natAbs : Int) = (G.mk x.v y.v).conj by unfold G.conj; simp only []; congr 1; omega] at s
      exact s.mono (by decide)
  · unfold angleW
    rw [sign_pos (by omega), flip_none]
    refine ⟨d, e, ?_, by omega, by omega, by omega⟩
    rw [show (y.v.natAbs : Int) = y.v by omega] at c
    exact c.mono (by decide)
end Go.Proofs.YtbmfcedndbgpoaaGreat

/- The root of any word. -/
namespace Go.Proofs.YtbmfcedndbgpoaaGreat
open Go.RowKit Go.Deep
set_option linter.unusedVariables false
theorem root_0 {x : Wd} (l : 1073741824 ≤ x.v) : (rootU x).v = x.v / 4 ∧ (rootW x).2.v = 0 := by
  have ok := x.ok
  unfold In32 at ok
  have ht : rootT x = kW 0 := by
    apply Wd.ext_
    show andI (clzI x.v) (kW 30).v = (kW 0).v
    rw [clz_of 30 1073741824 (by decide) (by decide) l (by omega)]; decide +kernel
  constructor
  · show shrI (shlI x.v (rootT x).v) (kW 2).v = _
    rw [ht]
    unfold shrI shlI
    rw [show sh (kW 0).v = 0 by decide +kernel, show sh (kW 2).v = 2 by decide +kernel, show ((2 : Int) ^ 2) = 4 by decide, show ((2 : Int) ^ 0) = 1 by decide]
    unfold wrap32
    omega
  · show shrI (rootT x).v (kW 1).v = _
    rw [ht]
    decide +kernel
/-- Of any word from 256 on. -/
theorem even_word {x : Wd} (h0 : 256 ≤ x.v) :
    ∃ (h : Nat) (H : Int), (rootW x).2 = kW h ∧ h ≤ 11 ∧ H = 2 ^ h ∧ H ≤ 2048 ∧ 0 < H ∧ (x.v - 3) * (H * H) ≤ 4 * (rootU x).v ∧ 268435456 ≤ (rootU x).v ∧ (rootU x).v < 1073741824 := by
  have ok := x.ok
  unfold In32 at ok
  by_cases c0 : 1073741824 ≤ x.v
  · obtain ⟨a, b⟩ := root_0 (x := x) c0
    exact ⟨0, 1, Wd.ext_ (b.trans (by decide +kernel)), by decide, by decide, by decide, by decide, by omega, by omega, by omega⟩
  by_cases c1 : 268435456 ≤ x.v
  · obtain ⟨a, b⟩ := root_1 (x := x) c1 (by omega)
    exact ⟨1, 2, Wd.ext_ (b.trans (by decide +kernel)), by decide, by decide, by decide, by decide, by omega, by omega, by omega⟩
  by_cases c2 : 67108864 ≤ x.v
  · obtain ⟨a, b⟩ := root_2 (x := x) c2 (by omega)
    exact ⟨2, 4, Wd.ext_ (b.trans (by decide +kernel)), by decide, by decide, by decide, by decide, by omega, by omega, by omega⟩
  by_cases c3 : 16777216 ≤ x.v
  · obtain ⟨a, b⟩ := root_3 (x := x) c3 (by omega)
    exact ⟨3, 8, Wd.ext_ (b.trans (by decide +kernel)), by decide, by decide, by decide, by decide, by omega, by omega, by omega⟩
  by_cases c4 : 4194304 ≤ x.v
  · obtain ⟨a, b⟩ := root_4 (x := x) c4 (by omega)
    exact ⟨4, 16, Wd.ext_ (b.trans (by decide +kernel)), by decide, by decide, by decide, by decide, by omega, by omega, by omega⟩
  by_cases c5 : 1048576 ≤ x.v
  · obtain ⟨a, b⟩ := root_5 (x := x) c5 (by omega)
    exact ⟨5, 32, Wd.ext_ (b.trans (by decide +kernel)), by decide, by decide, by decide, by decide, by omega, by omega, by omega⟩
  by_cases c6 : 262144 ≤ x.v
  · obtain ⟨a, b⟩ := root_6 (x := x) c6 (by omega)
    exact ⟨6, 64, Wd.ext_ (b.trans (by decide +kernel)), by decide, by decide, by decide, by decide, by omega, by omega, by omega⟩
  by_cases c7 : 65536 ≤ x.v
  · obtain ⟨a, b⟩ := root_7 (x := x) c7 (by omega)
    exact ⟨7, 128, Wd.ext_ (b.trans (by decide +kernel)), by decide, by decide, by decide, by decide, by omega, by omega, by omega⟩
  by_cases c8 : 16384 ≤ x.v
  · obtain ⟨a, b⟩ := root_8 (x := x) c8 (by omega)
    exact ⟨8, 256, Wd.ext_ (b.trans (by decide +kernel)), by decide, by decide, by decide, by decide, by omega, by omega, by omega⟩
  by_cases c9 : 4096 ≤ x.v
  · obtain ⟨a, b⟩ := root_9 (x := x) c9 (by omega)
    exact ⟨9, 512, Wd.ext_ (b.trans (by decide +kernel)), by decide, by decide, by decide, by decide, by omega, by omega, by omega⟩
  by_cases c10 : 1024 ≤ x.v
  · obtain ⟨a, b⟩ := root_10 (x := x) c10 (by omega)
    exact ⟨10, 1024, Wd.ext_ (b.trans (by decide +kernel)), by decide, by decide, by decide, by decide, by omega, by omega, by omega⟩
  obtain ⟨a, b⟩ := root_11 (x := x) (by omega) (by omega)
  exact ⟨11, 2048, Wd.ext_ (b.trans (by decide +kernel)), by decide, by decide, by decide, by decide, by omega, by omega, by omega⟩
end Go.Proofs.YtbmfcedndbgpoaaGreat

/- Pointing's length is 1, its parts have their signs. -/
namespace Go.Proofs.YtbmfcedndbgpoaaGreat
open Go.RowKit Go.Deep
set_option linter.unusedVariables false
theorem small {U S : Int} (h : U * U ≤ S) (hS : S < 1152921779484753920) : -1073741952 ≤ U ∧ U ≤ 1073741952 := by
  constructor
  · refine Int.not_lt.1 (fun hc => ?_)
    have : 1073741953 * 1073741953 ≤ (-U) * (-U) := Int.mul_le_mul (by omega) (by omega) (by decide) (by omega)
    rw [Int.neg_mul_neg] at this
    omega
  · refine Int.not_lt.1 (fun hc => ?_)
    have : 1073741953 * 1073741953 ≤ U * U := Int.mul_le_mul (by omega) (by omega) (by decide) (by omega)
    omega
/-- One part. -/
theorem part_is {x z : Wd} (h : Nat) (H : Int) (hh : h ≤ 6) (hH : H = 2 ^ h) (hx : -32768 ≤ x.v ∧ x.v ≤ 32767) (hz : 0 ≤ z.v ∧ z.v ≤ 1288490189)
    (m : Int) (hm : m = (32768 * x.v * z.v + 536870912) / 1073741824) (l : -2147483648 ≤ H * m ∧ H * m ≤ 2147483647) : (scaledW (upW x 15) z (kW h)).v = H * m := by
  have e : (mulqW (upW x 15) z).v = m := by
    rw [mulq_is, up15_is (by omega), hm]
    rw [up15_is (by omega)]
    have := ab (A := z.v) (B := 32768 * x.v) (b := 1073741824) (by omega)
    rw [Int.natAbs_of_nonneg hz.1, Int.mul_comm z.v (32768 * x.v)] at this
    generalize 32768 * x.v * z.v = P at *
    omega
  show (shlW (mulqW (upW x 15) z) (kW h)).v = _
  rw [shl_is h H hh hH (by rw [e]; exact l.1) (by rw [e]; exact l.2), e]
theorem sign_is {x z m H : Int} (hz : 0 ≤ z) (hH : 0 < H) (hm : m = (32768 * x * z + 536870912) / 1073741824) : 0 ≤ (H * m) * x := by
  rcases Int.le_total 0 x with h | h
  · have : 0 ≤ 32768 * x * z := Int.mul_nonneg (by omega) hz
    generalize 32768 * x * z = P at *
    exact Int.mul_nonneg (Int.mul_nonneg (by omega) (by omega)) h
  · have : 32768 * x * z ≤ 0 := Int.mul_nonpos_of_nonpos_of_nonneg (by omega) hz
    generalize 32768 * x * z = P at *
    exact Int.mul_nonneg_of_nonpos_of_nonpos (Int.mul_nonpos_of_nonneg_of_nonpos (by omega) (by omega)) h
theorem point_unit (a b c : Wd) (ha : -32768 ≤ a.v ∧ a.v ≤ 32767) (hb : -32768 ≤ b.v ∧ b.v ≤ 32767) (hc : -32768 ≤ c.v ∧ c.v ≤ 32767)
    (n0 : 1000000 ≤ a.v * a.v + b.v * b.v + c.v * c.v) (n1 : a.v * a.v + b.v * b.v + c.v * c.v ≤ 400000000) :
    ∃ U0 U1 U2 : Int, (pointW a b c).a.v = U0 ∧ (pointW a b c).b.v = U1 ∧ (pointW a b c).c.v = U2 ∧ (-1073741952 ≤ U0 ∧ U0 ≤ 1073741952) ∧ (-1073741952 ≤ U1 ∧ U1 ≤ 1073741952) ∧ (-1073741952 ≤ U2 ∧ U2 ≤ 1073741952) ∧ 0 ≤ U0 * a.v ∧ 0 ≤ U1 * b.v ∧ 0 ≤ U2 * c.v ∧ 1152921229728940032 < U0 * U0 + U1 * U1 + U2 * U2 ∧ U0 * U0 + U1 * U1 + U2 * U2 < 1152921779484753920 := by
  obtain ⟨hs, _⟩ := square_short a b c ha hb hc
  have hok := (squareW a b c).ok
  unfold In32 at hok
  have hn : (squareW a b c).v = a.v * a.v + b.v * b.v + c.v * c.v := by
    generalize a.v * a.v + b.v * b.v + c.v * c.v = n at *
    omega
  obtain ⟨h, H, e2, hh, hH, hH64, hH0, u0, u4, ue, u1⟩ := root_word (x := squareW a b c) (by omega) (by omega)
  obtain ⟨z0, z1, d0, d1⟩ := rootZ_dist (u := rootU (squareW a b c)) (by omega)
  have zz : 0 ≤ (rootZ (rootU (squareW a b c)) 4).v ∧ (rootZ (rootU (squareW a b c)) 4).v ≤ 1288490189 := by omega
  unfold pointW
  rw [e2]
  show ∃ U0 U1 U2 : Int, (scaledW (upW a 15) (rootZ (rootU (squareW a b c)) 4) (kW h)).v = U0 ∧ (scaledW (upW b 15) (rootZ (rootU (squareW a b c)) 4) (kW h)).v = U1 ∧ (scaledW (upW c 15) (rootZ (rootU (squareW a b c)) 4) (kW h)).v = U2 ∧ _
  have hD : dist (rootU (squareW a b c)) (rootZ (rootU (squareW a b c)) 4) = (a.v * a.v + b.v * b.v + c.v * c.v) * (H * H) * ((rootZ (rootU (squareW a b c)) 4).v * (rootZ (rootU (squareW a b c)) 4).v) - 1237940039285380274899124224 := by
    unfold dist
    rw [ue, ← hn, ← Int.mul_assoc 4 (_ / 4), u4]
  rw [hD] at d0 d1
  clear hD ue u4 u0 u1 hs hn hok e2
  generalize rootZ (rootU (squareW a b c)) 4 = z at *
  obtain ⟨m0, k0⟩ : ∃ m, m = (32768 * a.v * z.v + 536870912) / 1073741824 := ⟨_, rfl⟩
  obtain ⟨m1, k1⟩ : ∃ m, m = (32768 * b.v * z.v + 536870912) / 1073741824 := ⟨_, rfl⟩
  obtain ⟨m2, k2⟩ : ∃ m, m = (32768 * c.v * z.v + 536870912) / 1073741824 := ⟨_, rfl⟩
  have rr : ∀ x m : Int, m = (32768 * x * z.v + 536870912) / 1073741824 → 1073741824 * (H * m) = H * (32768 * x * z.v) + H * (1073741824 * m - 32768 * x * z.v) ∧ -34359738368 ≤ H * (1073741824 * m - 32768 * x * z.v) ∧ H * (1073741824 * m - 32768 * x * z.v) ≤ 34359738368 := by
    intro x m hm
    have hr : -536870912 ≤ 1073741824 * m - 32768 * x * z.v ∧ 1073741824 * m - 32768 * x * z.v ≤ 536870912 := by
      generalize 32768 * x * z.v = P at *
      omega
    refine ⟨?_, ?_⟩
    · rw [Int.mul_sub]
      have : H * (1073741824 * m) = 1073741824 * (H * m) := Int.mul_left_comm _ _ _
      omega
    · have := ab (A := H) hr
      rw [Int.natAbs_of_nonneg (by omega)] at this
      omega
  obtain ⟨p0, p0'⟩ := rr _ _ k0
  obtain ⟨p1, p1'⟩ := rr _ _ k1
  obtain ⟨p2, p2'⟩ := rr _ _ k2
  have hN : H * (32768 * a.v * z.v) * (H * (32768 * a.v * z.v)) + H * (32768 * b.v * z.v) * (H * (32768 * b.v * z.v)) + H * (32768 * c.v * z.v) * (H * (32768 * c.v * z.v)) = 1073741824 * ((a.v * a.v + b.v * b.v + c.v * c.v) * (H * H) * (z.v * z.v)) := by
    clear d0 d1 n0 n1 rr p0 p1 p2 p0' p1' p2' k0 k1 k2 hH
    grind
  generalize (a.v * a.v + b.v * b.v + c.v * c.v) * (H * H) * (z.v * z.v) = N at *
  obtain ⟨t0, t1⟩ := three p0 p1 p2 p0' p1' p2' hN (by omega)
  clear rr p0 p1 p2 p0' p1' p2' hN
  have s0 := sq_nonneg (H * m0)
  have s1 := sq_nonneg (H * m1)
  have s2 := sq_nonneg (H * m2)
  have f0 : 1152921229728940032 < H * m0 * (H * m0) + H * m1 * (H * m1) + H * m2 * (H * m2) := by omega
  have f1 : H * m0 * (H * m0) + H * m1 * (H * m1) + H * m2 * (H * m2) < 1152921779484753920 := by omega
  have v0 := small (U := H * m0) (S := H * m0 * (H * m0) + H * m1 * (H * m1) + H * m2 * (H * m2)) (by omega) f1
  have v1 := small (U := H * m1) (S := H * m0 * (H * m0) + H * m1 * (H * m1) + H * m2 * (H * m2)) (by omega) f1
  have v2 := small (U := H * m2) (S := H * m0 * (H * m0) + H * m1 * (H * m1) + H * m2 * (H * m2)) (by omega) f1
  exact ⟨H * m0, H * m1, H * m2, part_is h H hh hH ha zz m0 k0 (by omega), part_is h H hh hH hb zz m1 k1 (by omega), part_is h H hh hH hc zz m2 k2 (by omega), v0, v1, v2, sign_is zz.1 hH0 k0, sign_is zz.1 hH0 k1, sign_is zz.1 hH0 k2, f0, f1⟩
end Go.Proofs.YtbmfcedndbgpoaaGreat

/- (The definitions stand in Wdef.) -/
