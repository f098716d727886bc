/- Texts of this claim, side by side: Ref01, Wdef, Keep, Works1, Slots2. -/
import Derived.Test.YtihgijhjhmjolaaGreatDoorMT3
import Derived.Test.YtihgijhjhmjolaaGreatDoorMT2
/- The plain words of layer 1: Mod, Signed, Low, Plain. -/
namespace Go.Proofs.YtihgijhjhmjolaaGreatDoor
open Go.RowKit Go.Deep
set_option linter.unusedVariables false
theorem emod_of_tmod {x n : Int} (hn : 0 < n) : x % n = if x.tmod n < 0 then x.tmod n + n else x.tmod n := by
  rw [Int.tmod_eq_emod]
  have h1 := Int.emod_nonneg x (by omega : n ≠ 0)
  have h2 := Int.emod_lt_of_pos x hn
  split <;> split <;> omega
set_option maxRecDepth 100000 in
set_option maxHeartbeats 1000000 in
theorem mod_calls (x n : Int) (w : World) (hx : -9223372036854775808 ≤ x ∧ x ≤ 9223372036854775807) (hn : 0 < n ∧ n ≤ 9223372036854775807) :
    Calls Tryz.prog 78 #[.int .i64 x, .int .i64 n] w fun e w' => e = .returned (.int .i64 (x % n)) ∧ w = w' := by
  have hm := @emod_of_tmod x n hn.1
  have h1 := Int.emod_nonneg x (by omega : n ≠ 0)
  have h2 := Int.emod_lt_of_pos x hn.1
  by_cases h0 : x.tmod n < 0
  · rw [if_pos h0] at hm
    go_enter Tryz.func78, Tryz.ntmps78
    go_wp2_with fail
    go_ret
    exact ⟨by first | rfl | (rw [hm]; rfl), rfl⟩
  · rw [if_neg h0] at hm
    go_enter Tryz.func78, Tryz.ntmps78
    go_wp2_with fail
    go_ret
    exact ⟨by first | rfl | (rw [hm]; rfl), rfl⟩
set_option maxRecDepth 100000 in
set_option maxHeartbeats 1000000 in
theorem signed_calls (x : Int) (w : World) (hx : -9223372036854775808 ≤ x ∧ x ≤ 9223372036854775807) :
    Calls Tryz.prog 80 #[.int .i64 x, .int .i64 32] w fun e w' => e = .returned (.int .i64 (wrap32 x)) ∧ w = w' := by
  go_enter Tryz.func80, Tryz.ntmps80
  go_wp2_with fail
  go_loopw [5, 6] (fun m i wr => ∃ k : Nat, k ≤ 32 ∧ i = .int .i64 k ∧ m = .int .i64 ((2 : Int) ^ k) ∧ w = wr) (fun m i _ => 32 - (intOf i).toNat)
  case atStart => exact ⟨0, by omega, rfl, rfl, rfl⟩
  case round =>
    obtain ⟨k, hk, rfl, rfl, rfl⟩ := hrel
    by_cases hlt : k < 32
    · have hp : (2 : Int) ^ k ≤ 2147483648 := by
        have : (2 : Int) ^ k ≤ 2 ^ 31 := by exact_mod_cast Nat.pow_le_pow_right (by omega : 1 ≤ 2) (by omega : k ≤ 31)
        simpa using this
      have hq : 0 < (2 : Int) ^ k := Int.pow_pos (by omega)
      have hs : (2 : Int) * 2 ^ k = 2 ^ (k + 1) := by rw [Int.pow_succ, Int.mul_comm]
      generalize hP : (2 : Int) ^ k = p at *
      go_wp2_with fail
      go_roundw
      case rel => exact ⟨k + 1, by omega, by go_num, by first | rfl | rw [hs], by trivial⟩
      case measure => simp [intOf]; omega
    · obtain rfl : k = 32 := by omega
      go_wp2_with fail
      refine (mod_calls x 4294967296 _ hx (by omega)).mono ?_
      rintro e w' ⟨rfl, rfl⟩
      by_cases hg : 2147483648 ≤ x % 4294967296
      · have hw : wrap32 x = x % 4294967296 - 4294967296 := by unfold wrap32; omega
        have hb : x % 4294967296 < 4294967296 := by omega
        generalize x % 4294967296 = y at *
        go_wp2
        go_ret
        exact ⟨by rw [hw]; rfl, rfl⟩
      · have hw : wrap32 x = x % 4294967296 := by unfold wrap32; omega
        have hb : 0 ≤ x % 4294967296 := by omega
        generalize x % 4294967296 = y at *
        go_wp2
        go_ret
        exact ⟨by rw [hw]; rfl, rfl⟩
set_option maxRecDepth 100000 in
set_option maxHeartbeats 1000000 in
theorem low_calls (x : Int) (w : World) (hx : -9223372036854775808 ≤ x ∧ x ≤ 9223372036854775807) :
    Calls Tryz.prog 79 #[.int .i64 x] w fun e w' => e = .returned (.int .i32 (wrap32 x)) ∧ w = w' := by
  have hb : -2147483648 ≤ wrap32 x ∧ wrap32 x ≤ 2147483647 := by unfold wrap32; omega
  go_enter Tryz.func79, Tryz.ntmps79
  go_wp2_with fail
  refine (signed_calls x _ hx).mono ?_
  rintro e w' ⟨rfl, rfl⟩
  generalize hy : wrap32 x = y at *
  go_wp2
  go_ret
  refine ⟨?_, rfl⟩
  first | rfl | (rw [hy]; rfl)
set_option maxRecDepth 100000 in
set_option maxHeartbeats 1000000 in
theorem plain_calls (x : Int) (w : World) (hx : -2147483648 ≤ x ∧ x ≤ 2147483647) :
    Calls Tryz.prog 136 #[.int .i32 x] w fun e w' => e = .returned (.int .i64 (x % 4294967296)) ∧ w = w' := by
  go_enter Tryz.func136, Tryz.ntmps136
  go_wp2_with fail
  refine (mod_calls x 4294967296 _ (by omega) (by omega)).mono ?_
  rintro e w' ⟨rfl, rfl⟩
  go_wp2
  go_ret
  exact ⟨rfl, rfl⟩
end Go.Proofs.YtihgijhjhmjolaaGreatDoor

/- What the filter's steps reckon, as words. -/
namespace Go.Proofs.YtihgijhjhmjolaaGreatDoor
open Go.RowKit Go.Deep
set_option linter.unusedVariables false
def squareW (a b c : Wd) : Wd := addW (addW (mulW a a) (mulW b b)) (mulW c c)
def withinW (n low high : Wd) : Wd := subW (orW (sltuW n low) (sltuW high n)) (kW 1)
def scaledW (x z h : Wd) : Wd := shlW (mulqW x z) h
def lessW (x : Wd) (l : List Wd) : Wd := l.foldl subsW x
def moreW (x : Wd) (l : List Wd) : Wd := l.foldl addsW x
def normW (x : Wd) (l : List Wd) : Wd := l.foldl (fun s y => addsW s (mulqW y y)) (mulqW x x)
/-- A term: two places, taken away or added. -/
structure Tm where
  a : Nat
  b : Nat
  less : Bool
def pick (l : List Wd) (k : Nat) : Wd := l.getD k (kW 0)
def term (ps qs : List Wd) (t : Tm) : Wd := mulqW (pick ps t.a) (pick qs t.b)
def put1 (ps qs : List Wd) (s : Wd) (t : Tm) : Wd := bif t.less then subsW s (term ps qs t) else addsW s (term ps qs t)
def tot0 (ps qs : List Wd) (t : Tm) : Wd := bif t.less then subsW (kW 0) (term ps qs t) else term ps qs t
def totalW (ps qs : List Wd) (t : Tm) (l : List Tm) : Wd := l.foldl (put1 ps qs) (tot0 ps qs t)
/-- Four words. -/
structure Q4 where
  a : Wd
  b : Wd
  c : Wd
  d : Wd
def timesW (a b c d e f g h : Wd) : Q4 := ⟨totalW [a, b, c, d] [e, f, g, h] ⟨0, 0, false⟩ [⟨1, 1, true⟩, ⟨2, 2, true⟩, ⟨3, 3, true⟩], totalW [a, b, c, d] [e, f, g, h] ⟨0, 1, false⟩ [⟨1, 0, false⟩, ⟨2, 3, false⟩, ⟨3, 2, true⟩], totalW [a, b, c, d] [e, f, g, h] ⟨0, 2, false⟩ [⟨1, 3, true⟩, ⟨2, 0, false⟩, ⟨3, 1, false⟩], totalW [a, b, c, d] [e, f, g, h] ⟨0, 3, false⟩ [⟨1, 2, false⟩, ⟨2, 1, true⟩, ⟨3, 0, false⟩]⟩
def rateW (a b c d e f g : Wd) : Q4 := ⟨totalW [a, b, c, d] [e, f, g] ⟨1, 0, true⟩ [⟨2, 1, true⟩, ⟨3, 2, true⟩], totalW [a, b, c, d] [e, f, g] ⟨0, 0, false⟩ [⟨2, 2, false⟩, ⟨3, 1, true⟩], totalW [a, b, c, d] [e, f, g] ⟨0, 1, false⟩ [⟨1, 2, true⟩, ⟨3, 0, false⟩], totalW [a, b, c, d] [e, f, g] ⟨0, 2, false⟩ [⟨1, 1, false⟩, ⟨2, 0, true⟩]⟩
def pullF0 (q0 q1 q2 q3 a0 : Wd) : Wd := lessW (mulqW q1 q3) [mulqW q0 q2, downW a0 1]
def pullF1 (q0 q1 q2 q3 a1 : Wd) : Wd := lessW (moreW (mulqW q0 q1) [mulqW q2 q3]) [downW a1 1]
def pullF2 (q1 q2 a2 : Wd) : Wd := lessW (kW 536870912) [mulqW q1 q1, mulqW q2 q2, downW a2 1]
def pullOf (q0 q1 q2 q3 f0 f1 f2 : Wd) : Q4 :=
  ⟨downW (lessW (mulqW q1 f1) [mulqW q2 f0]) 1, lessW (downW (moreW (mulqW q3 f0) [mulqW q0 f1]) 1) [mulqW q1 f2], lessW (downW (lessW (mulqW q3 f1) [mulqW q0 f0]) 1) [mulqW q2 f2], downW (moreW (mulqW q1 f0) [mulqW q2 f1]) 1⟩
def pullW (q0 q1 q2 q3 a0 a1 a2 : Wd) : Q4 := pullOf q0 q1 q2 q3 (pullF0 q0 q1 q2 q3 a0) (pullF1 q0 q1 q2 q3 a1) (pullF2 q1 q2 a2)
/-- Three words. -/
structure T3 where
  a : Wd
  b : Wd
  c : Wd
def errorsW (q0 q1 q2 q3 bx bz f0 f1 f2 : Wd) : T3 :=
  ⟨lessW (moreW (mulqW bx (lessW (kW 536870912) [mulqW q2 q2, mulqW q3 q3])) [mulqW bz (lessW (mulqW q1 q3) [mulqW q0 q2])]) [downW f0 1],
   lessW (moreW (mulqW bx (lessW (mulqW q1 q2) [mulqW q0 q3])) [mulqW bz (moreW (mulqW q0 q1) [mulqW q2 q3])]) [downW f1 1],
   lessW (moreW (mulqW bx (moreW (mulqW q0 q2) [mulqW q1 q3])) [mulqW bz (lessW (kW 536870912) [mulqW q1 q1, mulqW q2 q2])]) [downW f2 1]⟩
def rootStep (u y : Wd) : Wd := addsW y (downW (mulqW y (subsW (kW 1073741824) (upW (mulqW u (mulqW y y)) 2))) 1)
def rootT (x : Wd) : Wd := andW (clzW x) (kW 30)
def rootU (x : Wd) : Wd := shrW (shlW x (rootT x)) (kW 2)
def rootZ0 (u : Wd) : Wd := subsW (kW 1184766729) (mulqW (kW 715827883) u)
def rootZ (u : Wd) : Nat → Wd
  | 0 => rootZ0 u
  | k + 1 => rootStep u (rootZ u k)
/-- z, and h. -/
def rootW (x : Wd) : Wd × Wd := (rootZ (rootU x) 4, shrW (rootT x) (kW 1))
def sqrtW (x : Wd) : Wd := scaledW x (rootW x).1 (rootW x).2
def pointW (x0 x1 x2 : Wd) : T3 := ⟨scaledW (upW x0 15) (rootW (squareW x0 x1 x2)).1 (rootW (squareW x0 x1 x2)).2, scaledW (upW x1 15) (rootW (squareW x0 x1 x2)).1 (rootW (squareW x0 x1 x2)).2, scaledW (upW x2 15) (rootW (squareW x0 x1 x2)).1 (rootW (squareW x0 x1 x2)).2⟩
def evenW (x0 x1 x2 x3 : Wd) : Q4 := ⟨scaledW x0 (rootW (addsW (normW x0 [x1, x2, x3]) (kW 1024))).1 (rootW (addsW (normW x0 [x1, x2, x3]) (kW 1024))).2, scaledW x1 (rootW (addsW (normW x0 [x1, x2, x3]) (kW 1024))).1 (rootW (addsW (normW x0 [x1, x2, x3]) (kW 1024))).2, scaledW x2 (rootW (addsW (normW x0 [x1, x2, x3]) (kW 1024))).1 (rootW (addsW (normW x0 [x1, x2, x3]) (kW 1024))).2, scaledW x3 (rootW (addsW (normW x0 [x1, x2, x3]) (kW 1024))).1 (rootW (addsW (normW x0 [x1, x2, x3]) (kW 1024))).2⟩
def sumW (a b c e0 e1 e2 : Wd) : Wd := downW (moreW (mulqW a e0) [mulqW b e1, mulqW c e2]) 1
/-- The field as the quaternion turns it. -/
def fieldH (q0 q1 q2 q3 f0 f1 f2 : Wd) : Q4 := timesW (rateW q0 q1 q2 q3 f0 f1 f2).a (rateW q0 q1 q2 q3 f0 f1 f2).b (rateW q0 q1 q2 q3 f0 f1 f2).c (rateW q0 q1 q2 q3 f0 f1 f2).d q0 (negW q1) (negW q2) (negW q3)
def fieldB (q0 q1 q2 q3 f0 f1 f2 : Wd) : Wd := sqrtW (normW (fieldH q0 q1 q2 q3 f0 f1 f2).b [(fieldH q0 q1 q2 q3 f0 f1 f2).c])
def fieldZ (q0 q1 q2 q3 f0 f1 f2 : Wd) : Wd := (fieldH q0 q1 q2 q3 f0 f1 f2).d
def fieldE (q0 q1 q2 q3 f0 f1 f2 : Wd) : T3 := errorsW q0 q1 q2 q3 (fieldB q0 q1 q2 q3 f0 f1 f2) (fieldZ q0 q1 q2 q3 f0 f1 f2) f0 f1 f2
def fieldX (q0 q1 q2 q3 f0 f1 f2 : Wd) : Q4 := ⟨mulqW (fieldB q0 q1 q2 q3 f0 f1 f2) q0, mulqW (fieldB q0 q1 q2 q3 f0 f1 f2) q1, mulqW (fieldB q0 q1 q2 q3 f0 f1 f2) q2, mulqW (fieldB q0 q1 q2 q3 f0 f1 f2) q3⟩
def fieldY (q0 q1 q2 q3 f0 f1 f2 : Wd) : Q4 := ⟨mulqW (fieldZ q0 q1 q2 q3 f0 f1 f2) q0, mulqW (fieldZ q0 q1 q2 q3 f0 f1 f2) q1, mulqW (fieldZ q0 q1 q2 q3 f0 f1 f2) q2, mulqW (fieldZ q0 q1 q2 q3 f0 f1 f2) q3⟩
def fieldOf (x y : Q4) (e : T3) : Q4 :=
  ⟨sumW (negW y.c) (lessW y.b [x.d]) x.c e.a e.b e.c,
   sumW y.d (moreW x.c [y.a]) (lessW x.d [y.b, y.b]) e.a e.b e.c,
   sumW (negW (moreW x.c [x.c, y.a])) (moreW x.b [y.d]) (lessW x.a [y.c, y.c]) e.a e.b e.c,
   sumW (lessW y.b [x.d, x.d]) (lessW y.c [x.a]) x.b e.a e.b e.c⟩
def fieldW (q0 q1 q2 q3 f0 f1 f2 : Wd) : Q4 := fieldOf (fieldX q0 q1 q2 q3 f0 f1 f2) (fieldY q0 q1 q2 q3 f0 f1 f2) (fieldE q0 q1 q2 q3 f0 f1 f2)
def turnsL : List Wd := [kW 421657428, kW 248918915, kW 131521918, kW 66762579, kW 33510843, kW 16771758, kW 8387925, kW 4194219, kW 2097141, kW 1048575, kW 524288, kW 262144, kW 131072, kW 65536, kW 32768, kW 16384, kW 8192, kW 4096, kW 2048, kW 1024, kW 512, kW 256, kW 128, kW 64, kW 32, kW 16, kW 8, kW 4]
def levelW (v s : Wd) : Wd := shrW (shlW v s) (kW 2)
def turnStep (i : Nat) (x y c : Wd) : T3 := ⟨addW x (flipW (sarW y (kW i)) (signW y)), subW y (flipW (sarW x (kW i)) (signW y)), addW c (flipW (turnsL.getD i (kW 0)) (signW y))⟩
def turnW (x y : Wd) : Nat → T3
  | 0 => ⟨x, y, kW 0⟩
  | i + 1 => turnStep i (turnW x y i).a (turnW x y i).b (turnW x y i).c
/-- The two numbers, leveled, and turned. -/
def angleA (y x : Wd) : T3 := turnW (levelW (maxW (absW x) (absW y)) (subW (clzW (maxW (absW x) (absW y))) (kW 1))) (levelW (minW (absW x) (absW y)) (subW (clzW (maxW (absW x) (absW y))) (kW 1))) 28
def angleBof (y x c : Wd) : Wd := selW (negW (sltW (absW x) (absW y))) (subW (kW 843314857) c) c
def angleCof (x b : Wd) : Wd := selW (signW x) (subW (kW 1686629713) b) b
def angleB (y x : Wd) : Wd := angleBof y x (angleA y x).c
def angleC (y x : Wd) : Wd := angleCof x (angleB y x)
def angleW (y x : Wd) : Wd := flipW (angleC y x) (signW y)
def anglesY (q0 q1 q2 q3 : Wd) : Wd := moreW (mulqW q0 q1) [mulqW q2 q3]
def anglesX (q0 q1 q2 q3 : Wd) : Wd := lessW (kW 536870912) [mulqW q1 q1, mulqW q2 q2]
def anglesS (q0 q1 q2 q3 : Wd) : Wd := lessW (mulqW q0 q2) [mulqW q3 q1]
def anglesU (q0 q1 q2 q3 : Wd) : Wd := moreW (mulqW q0 q3) [mulqW q1 q2]
def anglesV (q0 q1 q2 q3 : Wd) : Wd := lessW (kW 536870912) [mulqW q2 q2, mulqW q3 q3]
def anglesR (q0 q1 q2 q3 : Wd) : Wd := sqrtW (normW (anglesX q0 q1 q2 q3) [anglesY q0 q1 q2 q3])
def anglesW (q0 q1 q2 q3 : Wd) : T3 := ⟨angleW (anglesY q0 q1 q2 q3) (anglesX q0 q1 q2 q3), angleW (anglesS q0 q1 q2 q3) (anglesR q0 q1 q2 q3), angleW (anglesU q0 q1 q2 q3) (anglesV q0 q1 q2 q3)⟩
/-- All ones, if it stands upright. -/
def lockedW (q0 q1 q2 q3 : Wd) : Wd := subW (sltW (absW (anglesS q0 q1 q2 q3)) (kW 536000000)) (kW 1)
/-- A quaternion of the norm 1. -/
def unitW (x0 x1 x2 x3 : Wd) : Q4 := ⟨scaledW x0 (rootW (normW x0 [x1, x2, x3])).1 (rootW (normW x0 [x1, x2, x3])).2, scaledW x1 (rootW (normW x0 [x1, x2, x3])).1 (rootW (normW x0 [x1, x2, x3])).2, scaledW x2 (rootW (normW x0 [x1, x2, x3])).1 (rootW (normW x0 [x1, x2, x3])).2, scaledW x3 (rootW (normW x0 [x1, x2, x3])).1 (rootW (normW x0 [x1, x2, x3])).2⟩
/-- A word within bounds. -/
def clipW (x : Wd) : Wd := minW (maxW x (kW (-134217728))) (kW 134217728)
/-- A quaternion's part behind a step, ahead of Unit. -/
def partW (q r b ga : Wd) : Wd := addsW q (clipW (subsW r (andW (downW b 8) ga)))
def sensedA (a0 a1 a2 : Wd) : Wd := withinW (squareW a0 a1 a2) (kW 16777216) (kW 150994944)
def sensedM (m0 m1 m2 : Wd) : Wd := withinW (squareW m0 m1 m2) (kW 1000000) (kW 400000000)
def sensedP (q0 q1 q2 q3 a0 a1 a2 : Wd) : Q4 := pullW q0 q1 q2 q3 (pointW a0 a1 a2).a (pointW a0 a1 a2).b (pointW a0 a1 a2).c
def sensedN (q0 q1 q2 q3 m0 m1 m2 : Wd) : Q4 := fieldW q0 q1 q2 q3 (pointW m0 m1 m2).a (pointW m0 m1 m2).b (pointW m0 m1 m2).c
/-- Pull, and field if it is taken. -/
def downOf (P N : Q4) (gm : Wd) : Q4 := ⟨addsW P.a (andW N.a gm), addsW P.b (andW N.b gm), addsW P.c (andW N.c gm), addsW P.d (andW N.d gm)⟩
def evenOf (D : Q4) : Q4 := evenW D.a D.b D.c D.d
def rateOf (q0 q1 q2 q3 g0 g1 g2 : Wd) : Q4 := rateW q0 q1 q2 q3 (upW g0 12) (upW g1 12) (upW g2 12)
def stepOf (q0 q1 q2 q3 : Wd) (R E : Q4) (ga : Wd) : Q4 := unitW (partW q0 R.a E.a ga) (partW q1 R.b E.b ga) (partW q2 R.c E.c ga) (partW q3 R.d E.d ga)
def sensedE (q0 q1 q2 q3 a0 a1 a2 m0 m1 m2 : Wd) : Q4 := evenOf (downOf (sensedP q0 q1 q2 q3 a0 a1 a2) (sensedN q0 q1 q2 q3 m0 m1 m2) (sensedM m0 m1 m2))
def sensedW (q0 q1 q2 q3 g0 g1 g2 a0 a1 a2 m0 m1 m2 : Wd) : Q4 := stepOf q0 q1 q2 q3 (rateOf q0 q1 q2 q3 g0 g1 g2) (sensedE q0 q1 q2 q3 a0 a1 a2 m0 m1 m2) (sensedA a0 a1 a2)
/-- Near to the norm 1. -/
def IsQ (a b c d : Wd) : Prop := (-1342177280 ≤ a.v ∧ a.v ≤ 1342177280) ∧ (-1342177280 ≤ b.v ∧ b.v ≤ 1342177280) ∧ (-1342177280 ≤ c.v ∧ c.v ≤ 1342177280) ∧ (-1342177280 ≤ d.v ∧ d.v ≤ 1342177280) ∧
  a.v * a.v + b.v * b.v + c.v * c.v + d.v * d.v - 1152921504606846976 < 68719476736 ∧ -68719476736 < a.v * a.v + b.v * b.v + c.v * c.v + d.v * d.v - 1152921504606846976
end Go.Proofs.YtihgijhjhmjolaaGreatDoor

/- What a region's S keeps: n cells behind a call (keepN); with m cells besides that may be written (of one block r; cellAt says what they hold) behind a call (keepN_rM), an alloc (keepaN ..), a store of all m (putN_rM), of one (oneN_rM). -/
namespace Go.Proofs.YtihgijhjhmjolaaGreatDoor
open Go.RowKit Go.Deep
set_option linter.unusedVariables false
/-- What a cell holds. -/
def cellAt (w : World) (a : Addr) : Value := (w.cell? a).getD undef
theorem cellAt_of {w : World} {a : Addr} {v : Value} (h : w.cell? a = some v) : w.cell? a = some (cellAt w a) := by unfold cellAt; rw [h]; rfl
theorem cellAt_is {w : World} {a : Addr} {v : Value} (h : w.cell? a = some v) : cellAt w a = v := by unfold cellAt; rw [h]; rfl
theorem cellAt_call {w1 w2 : World} {a : Addr} (hc : Chg w1 w2 []) (h : w1.cell? a = some (cellAt w1 a)) : w2.cell? a = some (cellAt w2 a) := cellAt_of (hc.cell h (by simp))
theorem cellAt_set {w : World} {a p : Addr} {u : Value} (h : w.cell? a = some (cellAt w a)) : (w.setCell p u).cell? a = some (cellAt (w.setCell p u) a) := by
  obtain ⟨v, hv⟩ := cell?_setCell_some (p := p) (x := u) h
  exact cellAt_of hv
theorem cell_far {w : World} {a p : Addr} {u : Value} (h : a.block ≠ p.block) : (w.setCell p u).cell? a = w.cell? a :=
  World.cell?_setCell_other w p a u (fun e => h (by rw [e]))
theorem fr_set {w : World} {a p : Addr} {u : Value} : (w.setCell p u).frozen? a = w.frozen? a := World.frozen?_setCell w p a u
theorem set_got {w : World} {r j : Nat} {u c : Value} (h : (w.setCell ⟨r, j, none⟩ u).cell? ⟨r, j, none⟩ = some c) : (w.setCell ⟨r, j, none⟩ u).cell? ⟨r, j, none⟩ = some u := by
  simp only [World.setCell, World.cell?, Array.getElem?_modify, if_true] at h ⊢
  rcases hh : w.heap[r]? with _ | o
  · rw [hh] at h; simp at h
  · rw [hh] at h
    cases o <;> simp_all
    rename_i cs t f
    rw [Array.getElem?_setIfInBounds_self] at h
    split at h
    · simpa using h.symm
    · cases h
theorem off_far {w : World} {r i j : Nat} {u : Value} (h : i ≠ j) : (w.setCell ⟨r, j, none⟩ u).cell? ⟨r, i, none⟩ = w.cell? ⟨r, i, none⟩ :=
  World.cell?_setCell_other w _ _ u (fun e => h (by injection e with _ e _; exact e.symm))
theorem got4 {w : World} {r : Nat} {u0 u1 u2 u3 c0 c1 c2 c3 : Value} (h0 : ((((w.setCell ⟨r, 0, none⟩ u0).setCell ⟨r, 1, none⟩ u1).setCell ⟨r, 2, none⟩ u2).setCell ⟨r, 3, none⟩ u3).cell? ⟨r, 0, none⟩ = some c0) (h1 : ((((w.setCell ⟨r, 0, none⟩ u0).setCell ⟨r, 1, none⟩ u1).setCell ⟨r, 2, none⟩ u2).setCell ⟨r, 3, none⟩ u3).cell? ⟨r, 1, none⟩ = some c1) (h2 : ((((w.setCell ⟨r, 0, none⟩ u0).setCell ⟨r, 1, none⟩ u1).setCell ⟨r, 2, none⟩ u2).setCell ⟨r, 3, none⟩ u3).cell? ⟨r, 2, none⟩ = some c2) (h3 : ((((w.setCell ⟨r, 0, none⟩ u0).setCell ⟨r, 1, none⟩ u1).setCell ⟨r, 2, none⟩ u2).setCell ⟨r, 3, none⟩ u3).cell? ⟨r, 3, none⟩ = some c3) : ((((w.setCell ⟨r, 0, none⟩ u0).setCell ⟨r, 1, none⟩ u1).setCell ⟨r, 2, none⟩ u2).setCell ⟨r, 3, none⟩ u3).cell? ⟨r, 0, none⟩ = some u0 ∧ ((((w.setCell ⟨r, 0, none⟩ u0).setCell ⟨r, 1, none⟩ u1).setCell ⟨r, 2, none⟩ u2).setCell ⟨r, 3, none⟩ u3).cell? ⟨r, 1, none⟩ = some u1 ∧ ((((w.setCell ⟨r, 0, none⟩ u0).setCell ⟨r, 1, none⟩ u1).setCell ⟨r, 2, none⟩ u2).setCell ⟨r, 3, none⟩ u3).cell? ⟨r, 2, none⟩ = some u2 ∧ ((((w.setCell ⟨r, 0, none⟩ u0).setCell ⟨r, 1, none⟩ u1).setCell ⟨r, 2, none⟩ u2).setCell ⟨r, 3, none⟩ u3).cell? ⟨r, 3, none⟩ = some u3 := by
  have e0 : ((((w.setCell ⟨r, 0, none⟩ u0).setCell ⟨r, 1, none⟩ u1).setCell ⟨r, 2, none⟩ u2).setCell ⟨r, 3, none⟩ u3).cell? ⟨r, 0, none⟩ = _ := ((off_far (by decide)).trans ((off_far (by decide)).trans (off_far (by decide))))
  rw [e0] at h0
  have e1 : ((((w.setCell ⟨r, 0, none⟩ u0).setCell ⟨r, 1, none⟩ u1).setCell ⟨r, 2, none⟩ u2).setCell ⟨r, 3, none⟩ u3).cell? ⟨r, 1, none⟩ = _ := ((off_far (by decide)).trans (off_far (by decide)))
  rw [e1] at h1
  have e2 : ((((w.setCell ⟨r, 0, none⟩ u0).setCell ⟨r, 1, none⟩ u1).setCell ⟨r, 2, none⟩ u2).setCell ⟨r, 3, none⟩ u3).cell? ⟨r, 2, none⟩ = _ := (off_far (by decide))
  rw [e2] at h2
  have e3 : ((((w.setCell ⟨r, 0, none⟩ u0).setCell ⟨r, 1, none⟩ u1).setCell ⟨r, 2, none⟩ u2).setCell ⟨r, 3, none⟩ u3).cell? ⟨r, 3, none⟩ = _ := rfl
  rw [e3] at h3
  exact ⟨e0.trans (set_got h0), e1.trans (set_got h1), e2.trans (set_got h2), e3.trans (set_got h3)⟩
theorem keep1 {w2 : World} {w0 w1 : World} {D : List Nat} {a0 : Addr} {v0 : Value} (hc : Chg w1 w2 []) (h : Chg w0 w1 D ∧ w1.cell? a0 = some v0) : Chg w0 w2 D ∧ w2.cell? a0 = some v0 :=
  ⟨h.1.trans hc (by simp), hc.cell h.2 (by simp)⟩
theorem keep2 {w2 : World} {w0 w1 : World} {D : List Nat} {a0 a1 : Addr} {v0 v1 : Value} (hc : Chg w1 w2 []) (h : Chg w0 w1 D ∧ w1.cell? a0 = some v0 ∧ w1.cell? a1 = some v1) : Chg w0 w2 D ∧ w2.cell? a0 = some v0 ∧ w2.cell? a1 = some v1 :=
  ⟨h.1.trans hc (by simp), hc.cell h.2.1 (by simp), hc.cell h.2.2 (by simp)⟩
theorem keep3 {w2 : World} {w0 w1 : World} {D : List Nat} {a0 a1 a2 : Addr} {v0 v1 v2 : Value} (hc : Chg w1 w2 []) (h : Chg w0 w1 D ∧ w1.cell? a0 = some v0 ∧ w1.cell? a1 = some v1 ∧ w1.cell? a2 = some v2) : Chg w0 w2 D ∧ w2.cell? a0 = some v0 ∧ w2.cell? a1 = some v1 ∧ w2.cell? a2 = some v2 :=
  ⟨h.1.trans hc (by simp), hc.cell h.2.1 (by simp), hc.cell h.2.2.1 (by simp), hc.cell h.2.2.2 (by simp)⟩
theorem keep4 {w2 : World} {w0 w1 : World} {D : List Nat} {a0 a1 a2 a3 : Addr} {v0 v1 v2 v3 : Value} (hc : Chg w1 w2 []) (h : Chg w0 w1 D ∧ w1.cell? a0 = some v0 ∧ w1.cell? a1 = some v1 ∧ w1.cell? a2 = some v2 ∧ w1.cell? a3 = some v3) : Chg w0 w2 D ∧ w2.cell? a0 = some v0 ∧ w2.cell? a1 = some v1 ∧ w2.cell? a2 = some v2 ∧ w2.cell? a3 = some v3 :=
  ⟨h.1.trans hc (by simp), hc.cell h.2.1 (by simp), hc.cell h.2.2.1 (by simp), hc.cell h.2.2.2.1 (by simp), hc.cell h.2.2.2.2 (by simp)⟩
theorem keep5 {w2 : World} {w0 w1 : World} {D : List Nat} {a0 a1 a2 a3 a4 : Addr} {v0 v1 v2 v3 v4 : Value} (hc : Chg w1 w2 []) (h : Chg w0 w1 D ∧ w1.cell? a0 = some v0 ∧ w1.cell? a1 = some v1 ∧ w1.cell? a2 = some v2 ∧ w1.cell? a3 = some v3 ∧ w1.cell? a4 = some v4) : Chg w0 w2 D ∧ w2.cell? a0 = some v0 ∧ w2.cell? a1 = some v1 ∧ w2.cell? a2 = some v2 ∧ w2.cell? a3 = some v3 ∧ w2.cell? a4 = some v4 :=
  ⟨h.1.trans hc (by simp), hc.cell h.2.1 (by simp), hc.cell h.2.2.1 (by simp), hc.cell h.2.2.2.1 (by simp), hc.cell h.2.2.2.2.1 (by simp), hc.cell h.2.2.2.2.2 (by simp)⟩
theorem keep6 {w2 : World} {w0 w1 : World} {D : List Nat} {a0 a1 a2 a3 a4 a5 : Addr} {v0 v1 v2 v3 v4 v5 : Value} (hc : Chg w1 w2 []) (h : Chg w0 w1 D ∧ w1.cell? a0 = some v0 ∧ w1.cell? a1 = some v1 ∧ w1.cell? a2 = some v2 ∧ w1.cell? a3 = some v3 ∧ w1.cell? a4 = some v4 ∧ w1.cell? a5 = some v5) : Chg w0 w2 D ∧ w2.cell? a0 = some v0 ∧ w2.cell? a1 = some v1 ∧ w2.cell? a2 = some v2 ∧ w2.cell? a3 = some v3 ∧ w2.cell? a4 = some v4 ∧ w2.cell? a5 = some v5 :=
  ⟨h.1.trans hc (by simp), hc.cell h.2.1 (by simp), hc.cell h.2.2.1 (by simp), hc.cell h.2.2.2.1 (by simp), hc.cell h.2.2.2.2.1 (by simp), hc.cell h.2.2.2.2.2.1 (by simp), hc.cell h.2.2.2.2.2.2 (by simp)⟩
theorem keep5_r4 {w2 : World} {w0 w1 : World} {D : List Nat} {a0 a1 a2 a3 a4 : Addr} {v0 v1 v2 v3 v4 : Value} {r : Nat} (hc : Chg w1 w2 []) (h : Chg w0 w1 D ∧ w1.cell? a0 = some v0 ∧ w1.cell? a1 = some v1 ∧ w1.cell? a2 = some v2 ∧ w1.cell? a3 = some v3 ∧ w1.cell? a4 = some v4 ∧ w1.cell? ⟨r, 0, none⟩ = some (cellAt (w1) ⟨r, 0, none⟩) ∧ w1.cell? ⟨r, 1, none⟩ = some (cellAt (w1) ⟨r, 1, none⟩) ∧ w1.cell? ⟨r, 2, none⟩ = some (cellAt (w1) ⟨r, 2, none⟩) ∧ w1.cell? ⟨r, 3, none⟩ = some (cellAt (w1) ⟨r, 3, none⟩) ∧ w1.frozen? ⟨r, 0, none⟩ = false ∧ w1.frozen? ⟨r, 1, none⟩ = false ∧ w1.frozen? ⟨r, 2, none⟩ = false ∧ w1.frozen? ⟨r, 3, none⟩ = false) : Chg w0 w2 D ∧ w2.cell? a0 = some v0 ∧ w2.cell? a1 = some v1 ∧ w2.cell? a2 = some v2 ∧ w2.cell? a3 = some v3 ∧ w2.cell? a4 = some v4 ∧ w2.cell? ⟨r, 0, none⟩ = some (cellAt (w2) ⟨r, 0, none⟩) ∧ w2.cell? ⟨r, 1, none⟩ = some (cellAt (w2) ⟨r, 1, none⟩) ∧ w2.cell? ⟨r, 2, none⟩ = some (cellAt (w2) ⟨r, 2, none⟩) ∧ w2.cell? ⟨r, 3, none⟩ = some (cellAt (w2) ⟨r, 3, none⟩) ∧ w2.frozen? ⟨r, 0, none⟩ = false ∧ w2.frozen? ⟨r, 1, none⟩ = false ∧ w2.frozen? ⟨r, 2, none⟩ = false ∧ w2.frozen? ⟨r, 3, none⟩ = false :=
  ⟨h.1.trans hc (by simp), hc.cell h.2.1 (by simp), hc.cell h.2.2.1 (by simp), hc.cell h.2.2.2.1 (by simp), hc.cell h.2.2.2.2.1 (by simp), hc.cell h.2.2.2.2.2.1 (by simp), cellAt_call hc h.2.2.2.2.2.2.1, cellAt_call hc h.2.2.2.2.2.2.2.1, cellAt_call hc h.2.2.2.2.2.2.2.2.1, cellAt_call hc h.2.2.2.2.2.2.2.2.2.1, (hc.frozen (World.block_lt_of_cell? w1 _ h.2.2.2.2.2.2.1) (by simp)).trans h.2.2.2.2.2.2.2.2.2.2.1, (hc.frozen (World.block_lt_of_cell? w1 _ h.2.2.2.2.2.2.2.1) (by simp)).trans h.2.2.2.2.2.2.2.2.2.2.2.1, (hc.frozen (World.block_lt_of_cell? w1 _ h.2.2.2.2.2.2.2.2.1) (by simp)).trans h.2.2.2.2.2.2.2.2.2.2.2.2.1, (hc.frozen (World.block_lt_of_cell? w1 _ h.2.2.2.2.2.2.2.2.2.1) (by simp)).trans h.2.2.2.2.2.2.2.2.2.2.2.2.2⟩
theorem keepa5_r4 {o : Obj} {w0 w1 : World} {D : List Nat} {a0 a1 a2 a3 a4 : Addr} {v0 v1 v2 v3 v4 : Value} {r : Nat} (h : Chg w0 w1 D ∧ w1.cell? a0 = some v0 ∧ w1.cell? a1 = some v1 ∧ w1.cell? a2 = some v2 ∧ w1.cell? a3 = some v3 ∧ w1.cell? a4 = some v4 ∧ w1.cell? ⟨r, 0, none⟩ = some (cellAt (w1) ⟨r, 0, none⟩) ∧ w1.cell? ⟨r, 1, none⟩ = some (cellAt (w1) ⟨r, 1, none⟩) ∧ w1.cell? ⟨r, 2, none⟩ = some (cellAt (w1) ⟨r, 2, none⟩) ∧ w1.cell? ⟨r, 3, none⟩ = some (cellAt (w1) ⟨r, 3, none⟩) ∧ w1.frozen? ⟨r, 0, none⟩ = false ∧ w1.frozen? ⟨r, 1, none⟩ = false ∧ w1.frozen? ⟨r, 2, none⟩ = false ∧ w1.frozen? ⟨r, 3, none⟩ = false) : Chg w0 (w1.alloc o) D ∧ (w1.alloc o).cell? a0 = some v0 ∧ (w1.alloc o).cell? a1 = some v1 ∧ (w1.alloc o).cell? a2 = some v2 ∧ (w1.alloc o).cell? a3 = some v3 ∧ (w1.alloc o).cell? a4 = some v4 ∧ (w1.alloc o).cell? ⟨r, 0, none⟩ = some (cellAt ((w1.alloc o)) ⟨r, 0, none⟩) ∧ (w1.alloc o).cell? ⟨r, 1, none⟩ = some (cellAt ((w1.alloc o)) ⟨r, 1, none⟩) ∧ (w1.alloc o).cell? ⟨r, 2, none⟩ = some (cellAt ((w1.alloc o)) ⟨r, 2, none⟩) ∧ (w1.alloc o).cell? ⟨r, 3, none⟩ = some (cellAt ((w1.alloc o)) ⟨r, 3, none⟩) ∧ (w1.alloc o).frozen? ⟨r, 0, none⟩ = false ∧ (w1.alloc o).frozen? ⟨r, 1, none⟩ = false ∧ (w1.alloc o).frozen? ⟨r, 2, none⟩ = false ∧ (w1.alloc o).frozen? ⟨r, 3, none⟩ = false :=
  keep5_r4 ((Chg.refl w1 []).alloc o) h
theorem put5_r4 {w0 w1 : World} {D : List Nat} {a0 a1 a2 a3 a4 : Addr} {v0 v1 v2 v3 v4 : Value} {r : Nat} {u0 u1 u2 u3 : Value} (hr : r ∈ D ∨ w0.heap.size ≤ r) (n0 : a0.block ≠ r) (n1 : a1.block ≠ r) (n2 : a2.block ≠ r) (n3 : a3.block ≠ r) (n4 : a4.block ≠ r) (h : Chg w0 w1 D ∧ w1.cell? a0 = some v0 ∧ w1.cell? a1 = some v1 ∧ w1.cell? a2 = some v2 ∧ w1.cell? a3 = some v3 ∧ w1.cell? a4 = some v4 ∧ w1.cell? ⟨r, 0, none⟩ = some (cellAt (w1) ⟨r, 0, none⟩) ∧ w1.cell? ⟨r, 1, none⟩ = some (cellAt (w1) ⟨r, 1, none⟩) ∧ w1.cell? ⟨r, 2, none⟩ = some (cellAt (w1) ⟨r, 2, none⟩) ∧ w1.cell? ⟨r, 3, none⟩ = some (cellAt (w1) ⟨r, 3, none⟩) ∧ w1.frozen? ⟨r, 0, none⟩ = false ∧ w1.frozen? ⟨r, 1, none⟩ = false ∧ w1.frozen? ⟨r, 2, none⟩ = false ∧ w1.frozen? ⟨r, 3, none⟩ = false) : Chg w0 ((((w1.setCell ⟨r, 0, none⟩ u0).setCell ⟨r, 1, none⟩ u1).setCell ⟨r, 2, none⟩ u2).setCell ⟨r, 3, none⟩ u3) D ∧ ((((w1.setCell ⟨r, 0, none⟩ u0).setCell ⟨r, 1, none⟩ u1).setCell ⟨r, 2, none⟩ u2).setCell ⟨r, 3, none⟩ u3).cell? a0 = some v0 ∧ ((((w1.setCell ⟨r, 0, none⟩ u0).setCell ⟨r, 1, none⟩ u1).setCell ⟨r, 2, none⟩ u2).setCell ⟨r, 3, none⟩ u3).cell? a1 = some v1 ∧ ((((w1.setCell ⟨r, 0, none⟩ u0).setCell ⟨r, 1, none⟩ u1).setCell ⟨r, 2, none⟩ u2).setCell ⟨r, 3, none⟩ u3).cell? a2 = some v2 ∧ ((((w1.setCell ⟨r, 0, none⟩ u0).setCell ⟨r, 1, none⟩ u1).setCell ⟨r, 2, none⟩ u2).setCell ⟨r, 3, none⟩ u3).cell? a3 = some v3 ∧ ((((w1.setCell ⟨r, 0, none⟩ u0).setCell ⟨r, 1, none⟩ u1).setCell ⟨r, 2, none⟩ u2).setCell ⟨r, 3, none⟩ u3).cell? a4 = some v4 ∧ ((((w1.setCell ⟨r, 0, none⟩ u0).setCell ⟨r, 1, none⟩ u1).setCell ⟨r, 2, none⟩ u2).setCell ⟨r, 3, none⟩ u3).cell? ⟨r, 0, none⟩ = some (cellAt (((((w1.setCell ⟨r, 0, none⟩ u0).setCell ⟨r, 1, none⟩ u1).setCell ⟨r, 2, none⟩ u2).setCell ⟨r, 3, none⟩ u3)) ⟨r, 0, none⟩) ∧ ((((w1.setCell ⟨r, 0, none⟩ u0).setCell ⟨r, 1, none⟩ u1).setCell ⟨r, 2, none⟩ u2).setCell ⟨r, 3, none⟩ u3).cell? ⟨r, 1, none⟩ = some (cellAt (((((w1.setCell ⟨r, 0, none⟩ u0).setCell ⟨r, 1, none⟩ u1).setCell ⟨r, 2, none⟩ u2).setCell ⟨r, 3, none⟩ u3)) ⟨r, 1, none⟩) ∧ ((((w1.setCell ⟨r, 0, none⟩ u0).setCell ⟨r, 1, none⟩ u1).setCell ⟨r, 2, none⟩ u2).setCell ⟨r, 3, none⟩ u3).cell? ⟨r, 2, none⟩ = some (cellAt (((((w1.setCell ⟨r, 0, none⟩ u0).setCell ⟨r, 1, none⟩ u1).setCell ⟨r, 2, none⟩ u2).setCell ⟨r, 3, none⟩ u3)) ⟨r, 2, none⟩) ∧ ((((w1.setCell ⟨r, 0, none⟩ u0).setCell ⟨r, 1, none⟩ u1).setCell ⟨r, 2, none⟩ u2).setCell ⟨r, 3, none⟩ u3).cell? ⟨r, 3, none⟩ = some (cellAt (((((w1.setCell ⟨r, 0, none⟩ u0).setCell ⟨r, 1, none⟩ u1).setCell ⟨r, 2, none⟩ u2).setCell ⟨r, 3, none⟩ u3)) ⟨r, 3, none⟩) ∧ ((((w1.setCell ⟨r, 0, none⟩ u0).setCell ⟨r, 1, none⟩ u1).setCell ⟨r, 2, none⟩ u2).setCell ⟨r, 3, none⟩ u3).frozen? ⟨r, 0, none⟩ = false ∧ ((((w1.setCell ⟨r, 0, none⟩ u0).setCell ⟨r, 1, none⟩ u1).setCell ⟨r, 2, none⟩ u2).setCell ⟨r, 3, none⟩ u3).frozen? ⟨r, 1, none⟩ = false ∧ ((((w1.setCell ⟨r, 0, none⟩ u0).setCell ⟨r, 1, none⟩ u1).setCell ⟨r, 2, none⟩ u2).setCell ⟨r, 3, none⟩ u3).frozen? ⟨r, 2, none⟩ = false ∧ ((((w1.setCell ⟨r, 0, none⟩ u0).setCell ⟨r, 1, none⟩ u1).setCell ⟨r, 2, none⟩ u2).setCell ⟨r, 3, none⟩ u3).frozen? ⟨r, 3, none⟩ = false :=
  ⟨((((h.1.setCell ⟨r, 0, none⟩ u0 hr).setCell ⟨r, 1, none⟩ u1 hr).setCell ⟨r, 2, none⟩ u2 hr).setCell ⟨r, 3, none⟩ u3 hr), ((cell_far n0).trans ((cell_far n0).trans ((cell_far n0).trans ((cell_far n0).trans h.2.1)))), ((cell_far n1).trans ((cell_far n1).trans ((cell_far n1).trans ((cell_far n1).trans h.2.2.1)))), ((cell_far n2).trans ((cell_far n2).trans ((cell_far n2).trans ((cell_far n2).trans h.2.2.2.1)))), ((cell_far n3).trans ((cell_far n3).trans ((cell_far n3).trans ((cell_far n3).trans h.2.2.2.2.1)))), ((cell_far n4).trans ((cell_far n4).trans ((cell_far n4).trans ((cell_far n4).trans h.2.2.2.2.2.1)))), (cellAt_set (cellAt_set (cellAt_set (cellAt_set h.2.2.2.2.2.2.1)))), (cellAt_set (cellAt_set (cellAt_set (cellAt_set h.2.2.2.2.2.2.2.1)))), (cellAt_set (cellAt_set (cellAt_set (cellAt_set h.2.2.2.2.2.2.2.2.1)))), (cellAt_set (cellAt_set (cellAt_set (cellAt_set h.2.2.2.2.2.2.2.2.2.1)))), (fr_set.trans (fr_set.trans (fr_set.trans (fr_set.trans h.2.2.2.2.2.2.2.2.2.2.1)))), (fr_set.trans (fr_set.trans (fr_set.trans (fr_set.trans h.2.2.2.2.2.2.2.2.2.2.2.1)))), (fr_set.trans (fr_set.trans (fr_set.trans (fr_set.trans h.2.2.2.2.2.2.2.2.2.2.2.2.1)))), (fr_set.trans (fr_set.trans (fr_set.trans (fr_set.trans h.2.2.2.2.2.2.2.2.2.2.2.2.2))))⟩
end Go.Proofs.YtihgijhjhmjolaaGreatDoor

/- Square, Within, Scaled, less, more, Norm of package works at numbers. -/
namespace Go.Proofs.YtihgijhjhmjolaaGreatDoor
open Go.RowKit Go.Deep
set_option linter.unusedVariables false
/-- Words as values. -/
def wds (l : List Wd) : List Value := l.map fun x => .int .i32 x.v
theorem length_wds (l : List Wd) : (wds l).length = l.length := by simp [wds]
theorem wds_at (l : List Wd) (k : Nat) (h : k < l.length) : (wds l)[k]? = some (.int .i32 (l[k]).v) := by simp [wds, h]
theorem lessW_take (x : Wd) (l : List Wd) (k : Nat) (h : k < l.length) : lessW x (l.take (k + 1)) = subsW (lessW x (l.take k)) l[k] := by
  unfold lessW; rw [List.take_add_one, List.getElem?_eq_getElem h, List.foldl_append]; rfl
theorem moreW_take (x : Wd) (l : List Wd) (k : Nat) (h : k < l.length) : moreW x (l.take (k + 1)) = addsW (moreW x (l.take k)) l[k] := by
  unfold moreW; rw [List.take_add_one, List.getElem?_eq_getElem h, List.foldl_append]; rfl
theorem normW_take (x : Wd) (l : List Wd) (k : Nat) (h : k < l.length) : normW x (l.take (k + 1)) = addsW (normW x (l.take k)) (mulqW l[k] l[k]) := by
  unfold normW; rw [List.take_add_one, List.getElem?_eq_getElem h, List.foldl_append]; rfl
set_option maxRecDepth 100000 in
set_option maxHeartbeats 2000000 in
theorem wsquare_calls (p : Addr) (a b c : Wd) (w : World) :
    Calls Tryz.prog 88 #[.agg #[.iface 152 (.pointer (some p))], .agg #[.int .i32 a.v, .int .i32 b.v, .int .i32 c.v]] w fun e w' => e = .returned (.int .i32 (squareW a b c).v) ∧ Chg w w' [] := by
  have k0 := Blk.new w 106 [.iface 152 (.pointer (some p))]
  have m0 := (k0.alloc (.cells #[.int .i32 a.v, .int .i32 b.v, .int .i32 c.v] 36))
  have g0_0 := m0.cell' (i := 0) rfl
  have k1 := Blk.new (w.alloc (.cells #[.iface 152 (.pointer (some p))] 106)) 36 [.int .i32 a.v, .int .i32 b.v, .int .i32 c.v]
  have m1 := k1
  simp only [size_alloc] at m1
  have g1_0 := m1.cell' (i := 0) rfl
  have g1_1 := m1.cell' (i := 1) rfl
  have g1_2 := m1.cell' (i := 2) rfl
  have HC := hide (((Chg.refl w []).alloc (.cells #[.iface 152 (.pointer (some p))] 106)).alloc (.cells #[.int .i32 a.v, .int .i32 b.v, .int .i32 c.v] 36))
  clear k0 k1
  clear m0 m1
  go_enter Tryz.func88, Tryz.ntmps88
  go_wp2_with fail
  generalize ((w.alloc (.cells #[.iface 152 (.pointer (some p))] 106)).alloc (.cells #[.int .i32 a.v, .int .i32 b.v, .int .i32 c.v] 36)) = w6 at *
  go_region_held3 (fun w' => Chg w6 w' [] ∧ w'.cell? ⟨w.heap.size, 0, none⟩ = some (.iface 152 (.pointer (some p))) ∧ w'.cell? ⟨w.heap.size + 1, 0, none⟩ = some (.int .i32 a.v) ∧ w'.cell? ⟨w.heap.size + 1, 1, none⟩ = some (.int .i32 b.v) ∧ w'.cell? ⟨w.heap.size + 1, 2, none⟩ = some (.int .i32 c.v))
    (first | exact ⟨(Chg.refl w6 []).drew, g0_0, g1_0, g1_1, g1_2⟩ | exact keep4 hcX (by assumption))
    (first | (go_at_call 144; refine (w_add p _ _ _).mono ?_; rintro e w7 ⟨rfl, hcX⟩) | (go_at_call 145; refine (w_mul p _ _ _).mono ?_; rintro e w7 ⟨rfl, hcX⟩))
  have hlast := ‹Chg w6 _ [] ∧ _›
  go_wp2
  go_ret
  exact ⟨rfl, HC.out.trans hlast.1 (by simp)⟩

set_option maxRecDepth 100000 in
set_option maxHeartbeats 2000000 in
theorem wwithin_calls (p : Addr) (n : Wd) (low high : Int) (w : World) (hl : In32 low) (hh : In32 high) :
    Calls Tryz.prog 87 #[.agg #[.iface 152 (.pointer (some p))], .int .i32 n.v, .int .i32 low, .int .i32 high] w fun e w' => e = .returned (.int .i32 (withinW n (kW low) (kW high)).v) ∧ Chg w w' [] := by
  have k0 := Blk.new w 106 [.iface 152 (.pointer (some p))]
  have m0 := k0
  have g0_0 := m0.cell' (i := 0) rfl
  have HC := hide ((Chg.refl w []).alloc (.cells #[.iface 152 (.pointer (some p))] 106))
  clear k0
  have h1 := nil_const p
  have h2 := meth_const p
  clear m0
  go_enter Tryz.func87, Tryz.ntmps87
  go_wp2_with fail
  generalize (w.alloc (.cells #[.iface 152 (.pointer (some p))] 106)) = w6 at *
  go_region_held3 (fun w' => Chg w6 w' [] ∧ w'.cell? ⟨w.heap.size, 0, none⟩ = some (.iface 152 (.pointer (some p))))
    (first | exact ⟨(Chg.refl w6 []).drew, g0_0⟩ | exact keep1 hcX (by assumption))
    (first | (go_at_call 143; refine (w_sltu p _ _ _).mono ?_; rintro e w7 ⟨rfl, hcX⟩) | (go_at_call 142; refine (w_or p _ _ _).mono ?_; rintro e w7 ⟨rfl, hcX⟩) | (go_at_call 123; refine (w_sub p _ _ _).mono ?_; rintro e w7 ⟨rfl, hcX⟩) | (go_at_call 200; refine (w_const p _ _ (by first | assumption | decide)).mono ?_; rintro e w7 ⟨rfl, hcX⟩))
  have hlast := ‹Chg w6 _ [] ∧ _›
  go_wp2
  go_ret
  exact ⟨rfl, HC.out.trans hlast.1 (by simp)⟩

set_option maxRecDepth 100000 in
set_option maxHeartbeats 2000000 in
theorem wscaled_calls (p : Addr) (x z h : Wd) (w : World) :
    Calls Tryz.prog 147 #[.agg #[.iface 152 (.pointer (some p))], .int .i32 x.v, .int .i32 z.v, .int .i32 h.v] w fun e w' => e = .returned (.int .i32 (scaledW x z h).v) ∧ Chg w w' [] := by
  have k0 := Blk.new w 106 [.iface 152 (.pointer (some p))]
  have m0 := k0
  have g0_0 := m0.cell' (i := 0) rfl
  have HC := hide ((Chg.refl w []).alloc (.cells #[.iface 152 (.pointer (some p))] 106))
  clear k0
  clear m0
  go_enter Tryz.func147, Tryz.ntmps147
  go_wp2_with fail
  generalize (w.alloc (.cells #[.iface 152 (.pointer (some p))] 106)) = w6 at *
  go_region_held3 (fun w' => Chg w6 w' [] ∧ w'.cell? ⟨w.heap.size, 0, none⟩ = some (.iface 152 (.pointer (some p))))
    (first | exact ⟨(Chg.refl w6 []).drew, g0_0⟩ | exact keep1 hcX (by assumption))
    (first | (go_at_call 117; refine (w_mulq p _ _ _).mono ?_; rintro e w7 ⟨rfl, hcX⟩) | (go_at_call 155; refine (w_shl p _ _ _).mono ?_; rintro e w7 ⟨rfl, hcX⟩))
  have hlast := ‹Chg w6 _ [] ∧ _›
  go_wp2
  go_ret
  exact ⟨rfl, HC.out.trans hlast.1 (by simp)⟩

set_option maxRecDepth 100000 in
set_option maxHeartbeats 2000000 in
theorem wless_calls (p : Addr) (x : Wd) (l : List Wd) (v : Value) (w : World) (hs : Sl w v (wds l)) (hn : l.length ≤ 3000) :
    Calls Tryz.prog 119 #[.agg #[.iface 152 (.pointer (some p))], .int .i32 x.v, v] w fun e w' => e = .returned (.int .i32 (lessW x l).v) ∧ Chg w w' [] := by
  obtain ⟨A, c, rfl, hcap, hx⟩ := hs
  have HS : Hid (Sl w (.slice A (wds l).length c) (wds l)) := hide ⟨A, c, rfl, hcap, hx⟩
  rw [length_wds] at *
  clear hx hcap
  have k0 := Blk.new w 106 [.iface 152 (.pointer (some p))]
  have m0 := k0
  have g0_0 := m0.cell' (i := 0) rfl
  have HC := hide ((Chg.refl w []).alloc (.cells #[.iface 152 (.pointer (some p))] 106))
  clear k0
  clear m0
  go_enter Tryz.func119, Tryz.ntmps119
  go_wp2_with fail
  generalize (w.alloc (.cells #[.iface 152 (.pointer (some p))] 106)) = w6 at *
  go_loopw [1, 11] (fun x' i wr => ∃ k : Nat, k ≤ l.length ∧ i = .int .i64 k ∧ x' = .int .i32 (lessW x (l.take k)).v ∧ Hid (Chg w6 wr [])) (fun _ i _ => l.length - (intOf i).toNat)
  case atStart => exact ⟨0, Nat.zero_le _, rfl, rfl, Chg.refl w6 []⟩
  case round =>
    obtain ⟨k, hk, rfl, rfl, HK⟩ := hrel
    by_cases hlt : k < l.length
    · have hc6 := HC.out.trans HK.out (D' := []) (by simp)
      have hg := HK.out.cell g0_0 (by simp)
      obtain ⟨b, off, hA, hca, _⟩ := (HS.out.chg hc6 (by simp)).at_ (wds_at l k hlt)
      subst hA
      clear hc6
      have HE := hide (lessW_take x l k hlt)
      generalize lessW x (l.take k) = s at *
      generalize l[k] = y at *
      go_wp2_with fail
      refine (w_subs p _ _ _).mono ?_
      rintro e w7 ⟨rfl, hcX⟩
      have HK2 := hide (HK.out.trans hcX (by simp))
      clear hcX hg hca
      go_wp2
      go_roundw
      case rel => exact ⟨k + 1, by omega, by go_num, by rw [HE.out], HK2⟩
      case measure => simp [intOf]; omega
    · have hk : k = l.length := by omega
      subst hk
      rw [List.take_length]
      go_wp2
      go_ret
      exact ⟨rfl, HC.out.trans HK.out (by simp)⟩

set_option maxRecDepth 100000 in
set_option maxHeartbeats 2000000 in
theorem wmore_calls (p : Addr) (x : Wd) (l : List Wd) (v : Value) (w : World) (hs : Sl w v (wds l)) (hn : l.length ≤ 3000) :
    Calls Tryz.prog 118 #[.agg #[.iface 152 (.pointer (some p))], .int .i32 x.v, v] w fun e w' => e = .returned (.int .i32 (moreW x l).v) ∧ Chg w w' [] := by
  obtain ⟨A, c, rfl, hcap, hx⟩ := hs
  have HS : Hid (Sl w (.slice A (wds l).length c) (wds l)) := hide ⟨A, c, rfl, hcap, hx⟩
  rw [length_wds] at *
  clear hx hcap
  have k0 := Blk.new w 106 [.iface 152 (.pointer (some p))]
  have m0 := k0
  have g0_0 := m0.cell' (i := 0) rfl
  have HC := hide ((Chg.refl w []).alloc (.cells #[.iface 152 (.pointer (some p))] 106))
  clear k0
  clear m0
  go_enter Tryz.func118, Tryz.ntmps118
  go_wp2_with fail
  generalize (w.alloc (.cells #[.iface 152 (.pointer (some p))] 106)) = w6 at *
  go_loopw [1, 11] (fun x' i wr => ∃ k : Nat, k ≤ l.length ∧ i = .int .i64 k ∧ x' = .int .i32 (moreW x (l.take k)).v ∧ Hid (Chg w6 wr [])) (fun _ i _ => l.length - (intOf i).toNat)
  case atStart => exact ⟨0, Nat.zero_le _, rfl, rfl, Chg.refl w6 []⟩
  case round =>
    obtain ⟨k, hk, rfl, rfl, HK⟩ := hrel
    by_cases hlt : k < l.length
    · have hc6 := HC.out.trans HK.out (D' := []) (by simp)
      have hg := HK.out.cell g0_0 (by simp)
      obtain ⟨b, off, hA, hca, _⟩ := (HS.out.chg hc6 (by simp)).at_ (wds_at l k hlt)
      subst hA
      clear hc6
      have HE := hide (moreW_take x l k hlt)
      generalize moreW x (l.take k) = s at *
      generalize l[k] = y at *
      go_wp2_with fail
      refine (w_adds p _ _ _).mono ?_
      rintro e w7 ⟨rfl, hcX⟩
      have HK2 := hide (HK.out.trans hcX (by simp))
      clear hcX hg hca
      go_wp2
      go_roundw
      case rel => exact ⟨k + 1, by omega, by go_num, by rw [HE.out], HK2⟩
      case measure => simp [intOf]; omega
    · have hk : k = l.length := by omega
      subst hk
      rw [List.take_length]
      go_wp2
      go_ret
      exact ⟨rfl, HC.out.trans HK.out (by simp)⟩

end Go.Proofs.YtihgijhjhmjolaaGreatDoor

/- Regions by slots, for walks that only make memory beside what S knows. No program is in sight. -/
namespace Go.Proofs.YtihgijhjhmjolaaGreatDoor
open Go.RowKit
set_option linter.unusedVariables false

/-- What each operation does: the list, and behind it the blocks that were made ahead of the region. -/
def kdOf (n : Nat) (L : List Kd) (olds : List (TypeId × List Value)) (k : Nat) : Kd :=
  if k < n then L.getD k .val else match olds[k - n]? with
    | some (T, c) => .new T c
    | none => .val
/-- A region by lists. -/
def Reg.of (n : Nat) (ops : Array Oper) (a0 : Act) (VL : List Value) (NL : List (Nat → Value)) (KL : List Kd) (olds : List (TypeId × List Value)) (OL : List Nat) (E : List Nat) (S : Nat → World → Prop) (F : World → Nat → Prop) : Reg :=
  { ops := ops, a0 := a0, V := fun k => VL.getD k undef, N := fun k => NL.getD k (fun _ => undef), kd := kdOf n KL olds, O := fun k => OL.getD (k - n) 0, S := S, F := F, B := 0, E := E }

theorem Reg.Post.val {r : Reg} {i : Nat} {o : Oper} {a : Act} {w : World} {γ : Nat → Nat} {n : Nat} {K : Act → World → Prop} (h : r.Post i o a w γ n K) (v : Value) (hk : r.kd i = .val) (hv : r.V i = v) :
    ∀ w', r.S (r.nxt i n) w' → r.Keep w w' → K (a.put o.dst v) w' := by
  unfold Reg.Post at h; rw [hk] at h; subst hv; exact h
theorem Reg.Post.pure {r : Reg} {i : Nat} {o : Oper} {a : Act} {w : World} {γ : Nat → Nat} {n : Nat} {K : Act → World → Prop} (h : r.Post i o a w γ n K) (v : Value) (hS : r.S n w) (hk : r.kd i = .val := by kernel_rfl) (hv : r.V i = v := by kernel_rfl) (he : r.E.contains i = false := by kernel_rfl) :
    K (a.put o.dst v) w := by
  refine h.val v hk hv w ?_ ⟨Nat.le_refl _, fun g _ h => ⟨h, rfl⟩⟩
  unfold Reg.nxt; rw [he]; exact hS
theorem Reg.Post.call {r : Reg} {i : Nat} {o : Oper} {a : Act} {w : World} {γ : Nat → Nat} {n : Nat} {K : Act → World → Prop} (h : r.Post i o a w γ n K) (v : Value) (hk : r.kd i = .val := by kernel_rfl) (hv : r.V i = v := by kernel_rfl) (he : r.E.contains i = false := by kernel_rfl) :
    ∀ w', r.S n w' → r.Keep w w' → K (a.put o.dst v) w' := by
  intro w' hS hK
  refine h.val v hk hv w' ?_ hK
  unfold Reg.nxt; rw [he]; exact hS
/-- The call number j of those that S counts. -/
theorem Reg.Post.eff {r : Reg} {i : Nat} {o : Oper} {a : Act} {w : World} {γ : Nat → Nat} {n : Nat} {K : Act → World → Prop} (h : r.Post i o a w γ n K) (v : Value) (hk : r.kd i = .val := by kernel_rfl) (hv : r.V i = v := by kernel_rfl) (he : r.E.contains i = true := by kernel_rfl) :
    ∀ w', r.S (n + 1) w' → r.Keep w w' → K (a.put o.dst v) w' := by
  intro w' hS hK
  refine h.val v hk hv w' ?_ hK
  unfold Reg.nxt; rw [he]; exact hS
theorem Reg.Post.new {r : Reg} {i : Nat} {o : Oper} {a : Act} {w : World} {γ : Nat → Nat} {n : Nat} {K : Act → World → Prop} (h : r.Post i o a w γ n K) (T : TypeId) (c : List Value) (f : Nat → Value) (hk : r.kd i = .new T c := by kernel_rfl) (hv : r.N i = f := by kernel_rfl) :
    K (a.put o.dst (f w.heap.size)) (w.alloc (.cells c.toArray T)) := by
  unfold Reg.Post at h; rw [hk] at h; subst hv; exact h
theorem Reg.Post.put {r : Reg} {i : Nat} {o : Oper} {a : Act} {w : World} {γ : Nat → Nat} {n : Nat} {K : Act → World → Prop} (h : r.Post i o a w γ n K) (j : Nat) (T : TypeId) (c0 c : List Value) (hk : r.kd i = .put j c := by kernel_rfl) (hj : r.kd j = .new T c0 := by kernel_rfl) :
    ∀ w', Blk w' (γ j) T c → Chg w w' [γ j] → w'.heap.size = w.heap.size → K (a.put o.dst undef) w' := by
  unfold Reg.Post at h; rw [hk] at h
  exact fun w' hb => h w' (fun T' c' e => by rw [hj] at e; injection e with e1 e2; rw [← e1]; exact hb)
theorem Reg.Pre.dep_ {r : Reg} {i : Nat} {o : Oper} {a : Act} {w : World} {γ : Nat → Nat} {n : Nat} (h : r.Pre i o a w γ n) (t j : Nat) (v : Value) (hj : (r.ops[j]?).bind (·.dst) = some t := by kernel_rfl) (hb : Reg.depB o j = true := by kernel_rfl) (hv : r.vl γ j = v := by kernel_rfl) :
    a.tmps.getD t undef = v ∧ a.tmps[t]?.getD undef = v := by
  have e := (h.at_ t j hj hb).trans hv
  exact ⟨e, by rw [← e]; exact (Array.getD_eq_getD_getElem? ..).symm⟩
theorem Reg.Pre.old_ {r : Reg} {i : Nat} {o : Oper} {a : Act} {w : World} {γ : Nat → Nat} {n : Nat} (h : r.Pre i o a w γ n) (t : Nat) (v : Value) (hb : Reg.baseB r.ops i t = true := by kernel_rfl) (hv : r.a0.tmps.getD t undef = v := by kernel_rfl) :
    a.tmps.getD t undef = v ∧ a.tmps[t]?.getD undef = v := by
  have e := (h.base_ t hb).trans hv
  exact ⟨e, by rw [← e]; exact (Array.getD_eq_getD_getElem? ..).symm⟩
theorem Reg.keep_refl (r : Reg) (w : World) : r.Keep w w := ⟨Nat.le_refl _, fun g _ h => ⟨h, rfl⟩⟩

/-- Only D and new blocks have turned since w6, and the cells hold what they held. -/
structure Sd (w6 : World) (D : List Nat) (cells : List (Addr × Value)) (w : World) : Prop where
  chg : Chg w6 w D
  cell : ∀ p ∈ cells, w.cell? p.1 = some p.2
def Fd (w6 : World) (D U : List Nat) (w : World) (g : Nat) : Prop := g ∉ U ∧ (g ∈ D ∨ w6.heap.size ≤ g)
theorem Sd.at_ {w6 w : World} {D : List Nat} {cells : List (Addr × Value)} (h : Sd w6 D cells w) (k : Nat) (a : Addr) (v : Value) (hk : cells[k]? = some (a, v)) : w.cell? a = some v :=
  h.cell (a, v) (List.mem_of_getElem? hk)
theorem Sd.call {w6 w w' : World} {D : List Nat} {cells : List (Addr × Value)} (h : Sd w6 D cells w) (hc : Chg w w' []) : Sd w6 D cells w' :=
  ⟨h.chg.trans hc (by simp), fun p hp => hc.cell (h.cell p hp) (by simp)⟩
theorem Reg.keep_call (r : Reg) {w6 w w' : World} {D U : List Nat} (hF : r.F = Fd w6 D U) (hc : Chg w w' []) : r.Keep w w' :=
  ⟨hc.size, fun g hg h => ⟨by rw [hF] at h ⊢; exact h, hc.block g hg (by simp)⟩⟩
theorem stands_d (r : Reg) (w6 : World) (D U : List Nat) (cells : List (Addr × Value)) (hS : r.S = fun _ => Sd w6 D cells) (hF : r.F = Fd w6 D U) (hB : r.B = 0)
    (hU : ∀ p ∈ cells, p.1.block ∈ U) (hlt : ∀ u ∈ U, u < w6.heap.size) : r.Stands := by
  refine ⟨fun n w o h => ?_, fun n w o g _ h => ?_, fun n w o h => ?_, fun n w w' g h hf _ _ hc hsz => ?_⟩
  · rw [hS] at h ⊢; exact h.call ((Chg.refl w []).alloc o)
  · rw [hF] at h ⊢; exact h
  · rw [hS] at h
    rw [hF, hB]
    have := h.chg.size
    refine ⟨⟨fun hu => ?_, .inr this⟩, Nat.zero_le _⟩
    have := hlt _ hu
    omega
  · rw [hS] at h ⊢
    rw [hF] at hf ⊢
    refine ⟨⟨h.chg.trans hc (by simpa using hf.2), fun p hp => ?_⟩, fun g' h' => h'⟩
    exact hc.cell (h.cell p hp) (by simp; intro e; exact hf.1 (e ▸ hU p hp))

theorem hold_of {n : Nat} {ops : Array Oper} {a0 : Act} {VL : List Value} {NL : List (Nat → Value)} {KL : List Kd} {olds : List (TypeId × List Value)} {OL : List Nat} {E : List Nat} {S : Nat → World → Prop} {F : World → Nat → Prop} {w w1 : World} (hn : ops.size = n)
    (h : ∀ k T c, olds[k]? = some (T, c) → Blk w (OL.getD k 0) T c ∧ F w1 (OL.getD k 0)) :
    ∀ j T c, (Reg.of n ops a0 VL NL KL olds OL E S F).kd j = .new T c → (Reg.of n ops a0 VL NL KL olds OL E S F).ops.size ≤ j → Blk w ((Reg.of n ops a0 VL NL KL olds OL E S F).O j) T c ∧ (Reg.of n ops a0 VL NL KL olds OL E S F).F w1 ((Reg.of n ops a0 VL NL KL olds OL E S F).O j) ∧ (Reg.of n ops a0 VL NL KL olds OL E S F).B ≤ (Reg.of n ops a0 VL NL KL olds OL E S F).O j := by
  intro j T c hj hle
  have hle' : ops.size ≤ j := hle
  have hj' : kdOf n KL olds j = .new T c := hj
  unfold kdOf at hj'
  rw [if_neg (by omega)] at hj'
  cases ho : olds[j - n]? with
  | none => rw [ho] at hj'; cases hj'
  | some p =>
    obtain ⟨T', c'⟩ := p
    rw [ho] at hj'
    injection hj' with h1 h2
    subst h1 h2
    have := h (j - n) T' c' ho
    exact ⟨this.1, this.2, Nat.zero_le _⟩
theorem ne_of {n : Nat} {ops : Array Oper} {a0 : Act} {VL : List Value} {NL : List (Nat → Value)} {KL : List Kd} {olds : List (TypeId × List Value)} {OL : List Nat} {E : List Nat} {S : Nat → World → Prop} {F : World → Nat → Prop} (hn : ops.size = n)
    (h : ∀ i j, i < olds.length → j < olds.length → i ≠ j → OL.getD i 0 ≠ OL.getD j 0) :
    ∀ i j, (Reg.of n ops a0 VL NL KL olds OL E S F).isNew i = true → (Reg.of n ops a0 VL NL KL olds OL E S F).isNew j = true → (Reg.of n ops a0 VL NL KL olds OL E S F).ops.size ≤ i → (Reg.of n ops a0 VL NL KL olds OL E S F).ops.size ≤ j → i ≠ j → (Reg.of n ops a0 VL NL KL olds OL E S F).O i ≠ (Reg.of n ops a0 VL NL KL olds OL E S F).O j := by
  have key : ∀ i, (Reg.of n ops a0 VL NL KL olds OL E S F).isNew i = true → n ≤ i → i - n < olds.length := fun i h1 h2 => by
    have h1' : (match kdOf n KL olds i with | .new _ _ => true | _ => false) = true := h1
    unfold kdOf at h1'
    rw [if_neg (by omega)] at h1'
    cases ho : olds[i - n]? with
    | none => rw [ho] at h1'; cases h1'
    | some p => exact (List.getElem?_eq_some_iff.1 ho).1
  intro i j h1 h2 h3 h4 h5
  have h3' : ops.size ≤ i := h3
  have h4' : ops.size ≤ j := h4
  exact h (i - n) (j - n) (key i h1 (by omega)) (key j h2 (by omega)) (by omega)

/-- The frame behind, from a list of what was put. -/
theorem end_of {r : Reg} {Q : Exit → Act → World → Prop} {γ : Nat → Nat} {w' : World} (l : List (Nat × Value)) (ht : Reg.fin r γ r.ops.size r.a0.tmps = l.foldl (fun t p => t.setIfInBounds p.1 p.2) r.a0.tmps)
    (h : Q .normal { tmps := l.foldl (fun t p => t.setIfInBounds p.1 p.2) r.a0.tmps, defers := r.a0.defers } w') :
    Q .normal { tmps := Reg.fin r γ r.ops.size r.a0.tmps, defers := r.a0.defers } w' := by rw [ht]; exact h
end Go.Proofs.YtihgijhjhmjolaaGreatDoor
