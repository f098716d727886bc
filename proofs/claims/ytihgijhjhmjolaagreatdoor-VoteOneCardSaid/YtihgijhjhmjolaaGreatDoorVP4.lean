/- Texts of this claim, side by side: Ref01, Wdef, Keep, Works1, Slots2, Plain, Slots3. -/
import Derived.Test.YtihgijhjhmjolaaGreatDoorVP3
import Derived.Test.YtihgijhjhmjolaaGreatDoorVP2
import Derived.OneCell
/- The plain words of layer 1: Mod, Signed, Low, Plain. -/
namespace Go.Proofs.YtihgijhjhmjolaaGreatDoor
open Go.RowKit Go.Deep
set_option linter.unusedVariables false
theorem emod_of_tmod {x n : Int} (hn : 0 < n) : x % n = if x.tmod n < 0 then x.tmod n + n else x.tmod n := by
 rw [Int.tmod_eq_emod]
 have h1 := Int.emod_nonneg x (by omega : n ≠ 0)
 have h2 := Int.emod_lt_of_pos x hn
 split <;> split <;> omega
set_option maxRecDepth 100000 in
set_option maxHeartbeats 1000000 in
theorem mod_calls (x n : Int) (w : World) (hx : -9223372036854775808 ≤ x ∧ x ≤ 9223372036854775807) (hn : 0 < n ∧ n ≤ 9223372036854775807) :
 Calls Tryz.prog 78 #[.int .i64 x, .int .i64 n] w fun e w' => e = .returned (.int .i64 (x % n)) ∧ w = w' := by
 have hm := @emod_of_tmod x n hn.1
 have h1 := Int.emod_nonneg x (by omega : n ≠ 0)
 have h2 := Int.emod_lt_of_pos x hn.1
 by_cases h0 : x.tmod n < 0
 · rw [if_pos h0] at hm
   go_enter Tryz.func78, Tryz.ntmps78
   go_wp2_with fail
   go_ret
   exact ⟨by first | rfl | (rw [hm]; rfl), rfl⟩
 · rw [if_neg h0] at hm
   go_enter Tryz.func78, Tryz.ntmps78
   go_wp2_with fail
   go_ret
   exact ⟨by first | rfl | (rw [hm]; rfl), rfl⟩
set_option maxRecDepth 100000 in
set_option maxHeartbeats 1000000 in
theorem signed_calls (x : Int) (w : World) (hx : -9223372036854775808 ≤ x ∧ x ≤ 9223372036854775807) :
 Calls Tryz.prog 80 #[.int .i64 x, .int .i64 32] w fun e w' => e = .returned (.int .i64 (wrap32 x)) ∧ w = w' := by
 go_enter Tryz.func80, Tryz.ntmps80
 go_wp2_with fail
 go_loopw [5, 6] (fun m i wr => ∃ k : Nat, k ≤ 32 ∧ i = .int .i64 k ∧ m = .int .i64 ((2 : Int) ^ k) ∧ w = wr) (fun m i _ => 32 - (intOf i).toNat)
 case atStart => exact ⟨0, by omega, rfl, rfl, rfl⟩
 case round =>
  obtain ⟨k, hk, rfl, rfl, rfl⟩ := hrel
  by_cases hlt : k < 32
  · have hp : (2 : Int) ^ k ≤ 2147483648 := by
     have : (2 : Int) ^ k ≤ 2 ^ 31 := by exact_mod_cast Nat.pow_le_pow_right (by omega : 1 ≤ 2) (by omega : k ≤ 31)
     simpa using this
    have hq : 0 < (2 : Int) ^ k := Int.pow_pos (by omega)
    have hs : (2 : Int) * 2 ^ k = 2 ^ (k + 1) := by rw [Int.pow_succ, Int.mul_comm]
    generalize hP : (2 : Int) ^ k = p at *
    go_wp2_with fail
    go_roundw
    case rel => exact ⟨k + 1, by omega, by go_num, by first | rfl | rw [hs], by trivial⟩
    case measure => simp [intOf]; omega
  · obtain rfl : k = 32 := by omega
    go_wp2_with fail
    refine (mod_calls x 4294967296 _ hx (by omega)).mono ?_
    rintro e w' ⟨rfl, rfl⟩
    by_cases hg : 2147483648 ≤ x % 4294967296
    · have hw : wrap32 x = x % 4294967296 - 4294967296 := by unfold wrap32; omega
      have hb : x % 4294967296 < 4294967296 := by omega
      generalize x % 4294967296 = y at *
      go_wp2
      go_ret
      exact ⟨by rw [hw]; rfl, rfl⟩
    · have hw : wrap32 x = x % 4294967296 := by unfold wrap32; omega
      have hb : 0 ≤ x % 4294967296 := by omega
      generalize x % 4294967296 = y at *
      go_wp2
      go_ret
      exact ⟨by rw [hw]; rfl, rfl⟩
set_option maxRecDepth 100000 in
set_option maxHeartbeats 1000000 in
theorem low_calls (x : Int) (w : World) (hx : -9223372036854775808 ≤ x ∧ x ≤ 9223372036854775807) :
 Calls Tryz.prog 79 #[.int .i64 x] w fun e w' => e = .returned (.int .i32 (wrap32 x)) ∧ w = w' := by
 have hb : -2147483648 ≤ wrap32 x ∧ wrap32 x ≤ 2147483647 := by unfold wrap32; omega
 go_enter Tryz.func79, Tryz.ntmps79
 go_wp2_with fail
 refine (signed_calls x _ hx).mono ?_
 rintro e w' ⟨rfl, rfl⟩
 generalize hy : wrap32 x = y at *
 go_wp2
 go_ret
 refine ⟨?_, rfl⟩
 first | rfl | (rw [hy]; rfl)
set_option maxRecDepth 100000 in
set_option maxHeartbeats 1000000 in
theorem plain_calls (x : Int) (w : World) (hx : -2147483648 ≤ x ∧ x ≤ 2147483647) :
 Calls Tryz.prog 136 #[.int .i32 x] w fun e w' => e = .returned (.int .i64 (x % 4294967296)) ∧ w = w' := by
 go_enter Tryz.func136, Tryz.ntmps136
 go_wp2_with fail
 refine (mod_calls x 4294967296 _ (by omega) (by omega)).mono ?_
 rintro e w' ⟨rfl, rfl⟩
 go_wp2
 go_ret
 exact ⟨rfl, rfl⟩
end Go.Proofs.YtihgijhjhmjolaaGreatDoor

/- What the filter's steps reckon, as words. -/
namespace Go.Proofs.YtihgijhjhmjolaaGreatDoor
open Go.RowKit Go.Deep
set_option linter.unusedVariables false
def squareW (a b c : Wd) : Wd := addW (addW (mulW a a) (mulW b b)) (mulW c c)
def withinW (n low high : Wd) : Wd := subW (orW (sltuW n low) (sltuW high n)) (kW 1)
def scaledW (x z h : Wd) : Wd := shlW (mulqW x z) h
def lessW (x : Wd) (l : List Wd) : Wd := l.foldl subsW x
def moreW (x : Wd) (l : List Wd) : Wd := l.foldl addsW x
def normW (x : Wd) (l : List Wd) : Wd := l.foldl (fun s y => addsW s (mulqW y y)) (mulqW x x)
structure Tm where
 a : Nat
 b : Nat
 less : Bool
def pick (l : List Wd) (k : Nat) : Wd := l.getD k (kW 0)
def term (ps qs : List Wd) (t : Tm) : Wd := mulqW (pick ps t.a) (pick qs t.b)
def put1 (ps qs : List Wd) (s : Wd) (t : Tm) : Wd := bif t.less then subsW s (term ps qs t) else addsW s (term ps qs t)
def tot0 (ps qs : List Wd) (t : Tm) : Wd := bif t.less then subsW (kW 0) (term ps qs t) else term ps qs t
def totalW (ps qs : List Wd) (t : Tm) (l : List Tm) : Wd := l.foldl (put1 ps qs) (tot0 ps qs t)
structure Q4 where
 a : Wd
 b : Wd
 c : Wd
 d : Wd
def timesW (a b c d e f g h : Wd) : Q4 := ⟨totalW [a, b, c, d] [e, f, g, h] ⟨0, 0, false⟩ [⟨1, 1, true⟩, ⟨2, 2, true⟩, ⟨3, 3, true⟩], totalW [a, b, c, d] [e, f, g, h] ⟨0, 1, false⟩ [⟨1, 0, false⟩, ⟨2, 3, false⟩, ⟨3, 2, true⟩], totalW [a, b, c, d] [e, f, g, h] ⟨0, 2, false⟩ [⟨1, 3, true⟩, ⟨2, 0, false⟩, ⟨3, 1, false⟩], totalW [a, b, c, d] [e, f, g, h] ⟨0, 3, false⟩ [⟨1, 2, false⟩, ⟨2, 1, true⟩, ⟨3, 0, false⟩]⟩
def rateW (a b c d e f g : Wd) : Q4 := ⟨totalW [a, b, c, d] [e, f, g] ⟨1, 0, true⟩ [⟨2, 1, true⟩, ⟨3, 2, true⟩], totalW [a, b, c, d] [e, f, g] ⟨0, 0, false⟩ [⟨2, 2, false⟩, ⟨3, 1, true⟩], totalW [a, b, c, d] [e, f, g] ⟨0, 1, false⟩ [⟨1, 2, true⟩, ⟨3, 0, false⟩], totalW [a, b, c, d] [e, f, g] ⟨0, 2, false⟩ [⟨1, 1, false⟩, ⟨2, 0, true⟩]⟩
def pullF0 (q0 q1 q2 q3 a0 : Wd) : Wd := lessW (mulqW q1 q3) [mulqW q0 q2, downW a0 1]
def pullF1 (q0 q1 q2 q3 a1 : Wd) : Wd := lessW (moreW (mulqW q0 q1) [mulqW q2 q3]) [downW a1 1]
def pullF2 (q1 q2 a2 : Wd) : Wd := lessW (kW 536870912) [mulqW q1 q1, mulqW q2 q2, downW a2 1]
def pullOf (q0 q1 q2 q3 f0 f1 f2 : Wd) : Q4 :=
 ⟨downW (lessW (mulqW q1 f1) [mulqW q2 f0]) 1, lessW (downW (moreW (mulqW q3 f0) [mulqW q0 f1]) 1) [mulqW q1 f2], lessW (downW (lessW (mulqW q3 f1) [mulqW q0 f0]) 1) [mulqW q2 f2], downW (moreW (mulqW q1 f0) [mulqW q2 f1]) 1⟩
def pullW (q0 q1 q2 q3 a0 a1 a2 : Wd) : Q4 := pullOf q0 q1 q2 q3 (pullF0 q0 q1 q2 q3 a0) (pullF1 q0 q1 q2 q3 a1) (pullF2 q1 q2 a2)
structure T3 where
 a : Wd
 b : Wd
 c : Wd
def errorsW (q0 q1 q2 q3 bx bz f0 f1 f2 : Wd) : T3 :=
 ⟨lessW (moreW (mulqW bx (lessW (kW 536870912) [mulqW q2 q2, mulqW q3 q3])) [mulqW bz (lessW (mulqW q1 q3) [mulqW q0 q2])]) [downW f0 1],
  lessW (moreW (mulqW bx (lessW (mulqW q1 q2) [mulqW q0 q3])) [mulqW bz (moreW (mulqW q0 q1) [mulqW q2 q3])]) [downW f1 1],
  lessW (moreW (mulqW bx (moreW (mulqW q0 q2) [mulqW q1 q3])) [mulqW bz (lessW (kW 536870912) [mulqW q1 q1, mulqW q2 q2])]) [downW f2 1]⟩
def rootStep (u y : Wd) : Wd := addsW y (downW (mulqW y (subsW (kW 1073741824) (upW (mulqW u (mulqW y y)) 2))) 1)
def rootT (x : Wd) : Wd := andW (clzW x) (kW 30)
def rootU (x : Wd) : Wd := shrW (shlW x (rootT x)) (kW 2)
def rootZ0 (u : Wd) : Wd := subsW (kW 1184766729) (mulqW (kW 715827883) u)
def rootZ (u : Wd) : Nat → Wd
 | 0 => rootZ0 u
 | k + 1 => rootStep u (rootZ u k)
def rootW (x : Wd) : Wd × Wd := (rootZ (rootU x) 4, shrW (rootT x) (kW 1))
def sqrtW (x : Wd) : Wd := scaledW x (rootW x).1 (rootW x).2
def pointW (x0 x1 x2 : Wd) : T3 := ⟨scaledW (upW x0 15) (rootW (squareW x0 x1 x2)).1 (rootW (squareW x0 x1 x2)).2, scaledW (upW x1 15) (rootW (squareW x0 x1 x2)).1 (rootW (squareW x0 x1 x2)).2, scaledW (upW x2 15) (rootW (squareW x0 x1 x2)).1 (rootW (squareW x0 x1 x2)).2⟩
def evenW (x0 x1 x2 x3 : Wd) : Q4 := ⟨scaledW x0 (rootW (addsW (normW x0 [x1, x2, x3]) (kW 1024))).1 (rootW (addsW (normW x0 [x1, x2, x3]) (kW 1024))).2, scaledW x1 (rootW (addsW (normW x0 [x1, x2, x3]) (kW 1024))).1 (rootW (addsW (normW x0 [x1, x2, x3]) (kW 1024))).2, scaledW x2 (rootW (addsW (normW x0 [x1, x2, x3]) (kW 1024))).1 (rootW (addsW (normW x0 [x1, x2, x3]) (kW 1024))).2, scaledW x3 (rootW (addsW (normW x0 [x1, x2, x3]) (kW 1024))).1 (rootW (addsW (normW x0 [x1, x2, x3]) (kW 1024))).2⟩
def sumW (a b c e0 e1 e2 : Wd) : Wd := downW (moreW (mulqW a e0) [mulqW b e1, mulqW c e2]) 1
def fieldH (q0 q1 q2 q3 f0 f1 f2 : Wd) : Q4 := timesW (rateW q0 q1 q2 q3 f0 f1 f2).a (rateW q0 q1 q2 q3 f0 f1 f2).b (rateW q0 q1 q2 q3 f0 f1 f2).c (rateW q0 q1 q2 q3 f0 f1 f2).d q0 (negW q1) (negW q2) (negW q3)
def fieldB (q0 q1 q2 q3 f0 f1 f2 : Wd) : Wd := sqrtW (normW (fieldH q0 q1 q2 q3 f0 f1 f2).b [(fieldH q0 q1 q2 q3 f0 f1 f2).c])
def fieldZ (q0 q1 q2 q3 f0 f1 f2 : Wd) : Wd := (fieldH q0 q1 q2 q3 f0 f1 f2).d
def fieldE (q0 q1 q2 q3 f0 f1 f2 : Wd) : T3 := errorsW q0 q1 q2 q3 (fieldB q0 q1 q2 q3 f0 f1 f2) (fieldZ q0 q1 q2 q3 f0 f1 f2) f0 f1 f2
def fieldX (q0 q1 q2 q3 f0 f1 f2 : Wd) : Q4 := ⟨mulqW (fieldB q0 q1 q2 q3 f0 f1 f2) q0, mulqW (fieldB q0 q1 q2 q3 f0 f1 f2) q1, mulqW (fieldB q0 q1 q2 q3 f0 f1 f2) q2, mulqW (fieldB q0 q1 q2 q3 f0 f1 f2) q3⟩
def fieldY (q0 q1 q2 q3 f0 f1 f2 : Wd) : Q4 := ⟨mulqW (fieldZ q0 q1 q2 q3 f0 f1 f2) q0, mulqW (fieldZ q0 q1 q2 q3 f0 f1 f2) q1, mulqW (fieldZ q0 q1 q2 q3 f0 f1 f2) q2, mulqW (fieldZ q0 q1 q2 q3 f0 f1 f2) q3⟩
def fieldOf (x y : Q4) (e : T3) : Q4 :=
 ⟨sumW (negW y.c) (lessW y.b [x.d]) x.c e.a e.b e.c,
  sumW y.d (moreW x.c [y.a]) (lessW x.d [y.b, y.b]) e.a e.b e.c,
  sumW (negW (moreW x.c [x.c, y.a])) (moreW x.b [y.d]) (lessW x.a [y.c, y.c]) e.a e.b e.c,
  sumW (lessW y.b [x.d, x.d]) (lessW y.c [x.a]) x.b e.a e.b e.c⟩
def fieldW (q0 q1 q2 q3 f0 f1 f2 : Wd) : Q4 := fieldOf (fieldX q0 q1 q2 q3 f0 f1 f2) (fieldY q0 q1 q2 q3 f0 f1 f2) (fieldE q0 q1 q2 q3 f0 f1 f2)
def turnsL : List Wd := [kW 421657428, kW 248918915, kW 131521918, kW 66762579, kW 33510843, kW 16771758, kW 8387925, kW 4194219, kW 2097141, kW 1048575, kW 524288, kW 262144, kW 131072, kW 65536, kW 32768, kW 16384, kW 8192, kW 4096, kW 2048, kW 1024, kW 512, kW 256, kW 128, kW 64, kW 32, kW 16, kW 8, kW 4]
def levelW (v s : Wd) : Wd := shrW (shlW v s) (kW 2)
def turnStep (i : Nat) (x y c : Wd) : T3 := ⟨addW x (flipW (sarW y (kW i)) (signW y)), subW y (flipW (sarW x (kW i)) (signW y)), addW c (flipW (turnsL.getD i (kW 0)) (signW y))⟩
def turnW (x y : Wd) : Nat → T3
 | 0 => ⟨x, y, kW 0⟩
 | i + 1 => turnStep i (turnW x y i).a (turnW x y i).b (turnW x y i).c
def angleA (y x : Wd) : T3 := turnW (levelW (maxW (absW x) (absW y)) (subW (clzW (maxW (absW x) (absW y))) (kW 1))) (levelW (minW (absW x) (absW y)) (subW (clzW (maxW (absW x) (absW y))) (kW 1))) 28
def angleBof (y x c : Wd) : Wd := selW (negW (sltW (absW x) (absW y))) (subW (kW 843314857) c) c
def angleCof (x b : Wd) : Wd := selW (signW x) (subW (kW 1686629713) b) b
def angleB (y x : Wd) : Wd := angleBof y x (angleA y x).c
def angleC (y x : Wd) : Wd := angleCof x (angleB y x)
def angleW (y x : Wd) : Wd := flipW (angleC y x) (signW y)
def anglesY (q0 q1 q2 q3 : Wd) : Wd := moreW (mulqW q0 q1) [mulqW q2 q3]
def anglesX (q0 q1 q2 q3 : Wd) : Wd := lessW (kW 536870912) [mulqW q1 q1, mulqW q2 q2]
def anglesS (q0 q1 q2 q3 : Wd) : Wd := lessW (mulqW q0 q2) [mulqW q3 q1]
def anglesU (q0 q1 q2 q3 : Wd) : Wd := moreW (mulqW q0 q3) [mulqW q1 q2]
def anglesV (q0 q1 q2 q3 : Wd) : Wd := lessW (kW 536870912) [mulqW q2 q2, mulqW q3 q3]
def anglesR (q0 q1 q2 q3 : Wd) : Wd := sqrtW (normW (anglesX q0 q1 q2 q3) [anglesY q0 q1 q2 q3])
def anglesW (q0 q1 q2 q3 : Wd) : T3 := ⟨angleW (anglesY q0 q1 q2 q3) (anglesX q0 q1 q2 q3), angleW (anglesS q0 q1 q2 q3) (anglesR q0 q1 q2 q3), angleW (anglesU q0 q1 q2 q3) (anglesV q0 q1 q2 q3)⟩
def lockedW (q0 q1 q2 q3 : Wd) : Wd := subW (sltW (absW (anglesS q0 q1 q2 q3)) (kW 536000000)) (kW 1)
def unitW (x0 x1 x2 x3 : Wd) : Q4 := ⟨scaledW x0 (rootW (normW x0 [x1, x2, x3])).1 (rootW (normW x0 [x1, x2, x3])).2, scaledW x1 (rootW (normW x0 [x1, x2, x3])).1 (rootW (normW x0 [x1, x2, x3])).2, scaledW x2 (rootW (normW x0 [x1, x2, x3])).1 (rootW (normW x0 [x1, x2, x3])).2, scaledW x3 (rootW (normW x0 [x1, x2, x3])).1 (rootW (normW x0 [x1, x2, x3])).2⟩
def clipW (x : Wd) : Wd := minW (maxW x (kW (-134217728))) (kW 134217728)
def partW (q r b ga : Wd) : Wd := addsW q (clipW (subsW r (andW (downW b 8) ga)))
def sensedA (a0 a1 a2 : Wd) : Wd := withinW (squareW a0 a1 a2) (kW 16777216) (kW 150994944)
def sensedM (m0 m1 m2 : Wd) : Wd := withinW (squareW m0 m1 m2) (kW 1000000) (kW 400000000)
def sensedP (q0 q1 q2 q3 a0 a1 a2 : Wd) : Q4 := pullW q0 q1 q2 q3 (pointW a0 a1 a2).a (pointW a0 a1 a2).b (pointW a0 a1 a2).c
def sensedN (q0 q1 q2 q3 m0 m1 m2 : Wd) : Q4 := fieldW q0 q1 q2 q3 (pointW m0 m1 m2).a (pointW m0 m1 m2).b (pointW m0 m1 m2).c
def downOf (P N : Q4) (gm : Wd) : Q4 := ⟨addsW P.a (andW N.a gm), addsW P.b (andW N.b gm), addsW P.c (andW N.c gm), addsW P.d (andW N.d gm)⟩
def evenOf (D : Q4) : Q4 := evenW D.a D.b D.c D.d
def rateOf (q0 q1 q2 q3 g0 g1 g2 : Wd) : Q4 := rateW q0 q1 q2 q3 (upW g0 12) (upW g1 12) (upW g2 12)
def stepOf (q0 q1 q2 q3 : Wd) (R E : Q4) (ga : Wd) : Q4 := unitW (partW q0 R.a E.a ga) (partW q1 R.b E.b ga) (partW q2 R.c E.c ga) (partW q3 R.d E.d ga)
def sensedE (q0 q1 q2 q3 a0 a1 a2 m0 m1 m2 : Wd) : Q4 := evenOf (downOf (sensedP q0 q1 q2 q3 a0 a1 a2) (sensedN q0 q1 q2 q3 m0 m1 m2) (sensedM m0 m1 m2))
def sensedW (q0 q1 q2 q3 g0 g1 g2 a0 a1 a2 m0 m1 m2 : Wd) : Q4 := stepOf q0 q1 q2 q3 (rateOf q0 q1 q2 q3 g0 g1 g2) (sensedE q0 q1 q2 q3 a0 a1 a2 m0 m1 m2) (sensedA a0 a1 a2)
end Go.Proofs.YtihgijhjhmjolaaGreatDoor

/- What a region's S keeps: n cells behind a call (keepN); with m cells besides that may be written (of one block r; cellAt says what they hold) behind a call (keepN_rM), an alloc (keepaN ..), a store of all m (putN_rM), of one (oneN_rM). -/
namespace Go.Proofs.YtihgijhjhmjolaaGreatDoor
open Go.RowKit Go.Deep
set_option linter.unusedVariables false
def cellAt (w : World) (a : Addr) : Value := (w.cell? a).getD undef
theorem cellAt_is {w : World} {a : Addr} {v : Value} (h : w.cell? a = some v) : cellAt w a = v := by unfold cellAt; rw [h]; rfl
end Go.Proofs.YtihgijhjhmjolaaGreatDoor

/- Square, Within, Scaled, less, more, Norm of package works at numbers. -/
namespace Go.Proofs.YtihgijhjhmjolaaGreatDoor
open Go.RowKit Go.Deep
set_option linter.unusedVariables false
def wds (l : List Wd) : List Value := l.map fun x => .int .i32 x.v
theorem length_wds (l : List Wd) : (wds l).length = l.length := by simp [wds]
theorem wds_at (l : List Wd) (k : Nat) (h : k < l.length) : (wds l)[k]? = some (.int .i32 (l[k]).v) := by simp [wds, h]
end Go.Proofs.YtihgijhjhmjolaaGreatDoor

/- Regions by slots, for walks that only make memory beside what S knows. No program is in sight. -/
namespace Go.Proofs.YtihgijhjhmjolaaGreatDoor
open Go.RowKit
set_option linter.unusedVariables false
def kdOf (n : Nat) (L : List Kd) (olds : List (TypeId × List Value)) (k : Nat) : Kd :=
 if k < n then L.getD k .val else match olds[k - n]? with
  | some (T, c) => .new T c
  | none => .val
def Reg.of (n : Nat) (ops : Array Oper) (a0 : Act) (VL : List Value) (NL : List (Nat → Value)) (KL : List Kd) (olds : List (TypeId × List Value)) (OL : List Nat) (E : List Nat) (S : Nat → World → Prop) (F : World → Nat → Prop) : Reg :=
 { ops := ops, a0 := a0, V := fun k => VL.getD k undef, N := fun k => NL.getD k (fun _ => undef), kd := kdOf n KL olds, O := fun k => OL.getD (k - n) 0, S := S, F := F, B := 0, E := E }
theorem Reg.Post.val {r : Reg} {i : Nat} {o : Oper} {a : Act} {w : World} {γ : Nat → Nat} {n : Nat} {K : Act → World → Prop} (h : r.Post i o a w γ n K) (v : Value) (hk : r.kd i = .val) (hv : r.V i = v) :
 ∀ w', r.S (r.nxt i n) w' → r.Keep w w' → K (a.put o.dst v) w' := by
 unfold Reg.Post at h; rw [hk] at h; subst hv; exact h
theorem Reg.Post.pure {r : Reg} {i : Nat} {o : Oper} {a : Act} {w : World} {γ : Nat → Nat} {n : Nat} {K : Act → World → Prop} (h : r.Post i o a w γ n K) (v : Value) (hS : r.S n w) (hk : r.kd i = .val := by kernel_rfl) (hv : r.V i = v := by kernel_rfl) (he : r.E.contains i = false := by kernel_rfl) :
 K (a.put o.dst v) w := by
 refine h.val v hk hv w ?_ ⟨Nat.le_refl _, fun g _ h => ⟨h, rfl⟩⟩
 unfold Reg.nxt; rw [he]; exact hS
theorem Reg.Post.call {r : Reg} {i : Nat} {o : Oper} {a : Act} {w : World} {γ : Nat → Nat} {n : Nat} {K : Act → World → Prop} (h : r.Post i o a w γ n K) (v : Value) (hk : r.kd i = .val := by kernel_rfl) (hv : r.V i = v := by kernel_rfl) (he : r.E.contains i = false := by kernel_rfl) :
 ∀ w', r.S n w' → r.Keep w w' → K (a.put o.dst v) w' := by
 intro w' hS hK
 refine h.val v hk hv w' ?_ hK
 unfold Reg.nxt; rw [he]; exact hS
theorem Reg.Post.eff {r : Reg} {i : Nat} {o : Oper} {a : Act} {w : World} {γ : Nat → Nat} {n : Nat} {K : Act → World → Prop} (h : r.Post i o a w γ n K) (v : Value) (hk : r.kd i = .val := by kernel_rfl) (hv : r.V i = v := by kernel_rfl) (he : r.E.contains i = true := by kernel_rfl) :
 ∀ w', r.S (n + 1) w' → r.Keep w w' → K (a.put o.dst v) w' := by
 intro w' hS hK
 refine h.val v hk hv w' ?_ hK
 unfold Reg.nxt; rw [he]; exact hS
theorem Reg.Post.new {r : Reg} {i : Nat} {o : Oper} {a : Act} {w : World} {γ : Nat → Nat} {n : Nat} {K : Act → World → Prop} (h : r.Post i o a w γ n K) (T : TypeId) (c : List Value) (f : Nat → Value) (hk : r.kd i = .new T c := by kernel_rfl) (hv : r.N i = f := by kernel_rfl) :
 K (a.put o.dst (f w.heap.size)) (w.alloc (.cells c.toArray T)) := by
 unfold Reg.Post at h; rw [hk] at h; subst hv; exact h
theorem Reg.Post.put {r : Reg} {i : Nat} {o : Oper} {a : Act} {w : World} {γ : Nat → Nat} {n : Nat} {K : Act → World → Prop} (h : r.Post i o a w γ n K) (j : Nat) (T : TypeId) (c0 c : List Value) (hk : r.kd i = .put j c := by kernel_rfl) (hj : r.kd j = .new T c0 := by kernel_rfl) :
 ∀ w', Blk w' (γ j) T c → Chg w w' [γ j] → w'.heap.size = w.heap.size → K (a.put o.dst undef) w' := by
 unfold Reg.Post at h; rw [hk] at h
 exact fun w' hb => h w' (fun T' c' e => by rw [hj] at e; injection e with e1 e2; rw [← e1]; exact hb)
theorem Reg.Pre.dep_ {r : Reg} {i : Nat} {o : Oper} {a : Act} {w : World} {γ : Nat → Nat} {n : Nat} (h : r.Pre i o a w γ n) (t j : Nat) (v : Value) (hj : (r.ops[j]?).bind (·.dst) = some t := by kernel_rfl) (hb : Reg.depB o j = true := by kernel_rfl) (hv : r.vl γ j = v := by kernel_rfl) :
 a.tmps.getD t undef = v ∧ a.tmps[t]?.getD undef = v := by
 have e := (h.at_ t j hj hb).trans hv
 exact ⟨e, by rw [← e]; exact (Array.getD_eq_getD_getElem? ..).symm⟩
theorem Reg.Pre.old_ {r : Reg} {i : Nat} {o : Oper} {a : Act} {w : World} {γ : Nat → Nat} {n : Nat} (h : r.Pre i o a w γ n) (t : Nat) (v : Value) (hb : Reg.baseB r.ops i t = true := by kernel_rfl) (hv : r.a0.tmps.getD t undef = v := by kernel_rfl) :
 a.tmps.getD t undef = v ∧ a.tmps[t]?.getD undef = v := by
 have e := (h.base_ t hb).trans hv
 exact ⟨e, by rw [← e]; exact (Array.getD_eq_getD_getElem? ..).symm⟩
theorem Reg.keep_refl (r : Reg) (w : World) : r.Keep w w := ⟨Nat.le_refl _, fun g _ h => ⟨h, rfl⟩⟩
structure Sd (w6 : World) (D : List Nat) (cells : List (Addr × Value)) (w : World) : Prop where
 chg : Chg w6 w D
 cell : ∀ p ∈ cells, w.cell? p.1 = some p.2
def Fd (w6 : World) (D U : List Nat) (w : World) (g : Nat) : Prop := g ∉ U ∧ (g ∈ D ∨ w6.heap.size ≤ g)
theorem Sd.at_ {w6 w : World} {D : List Nat} {cells : List (Addr × Value)} (h : Sd w6 D cells w) (k : Nat) (a : Addr) (v : Value) (hk : cells[k]? = some (a, v)) : w.cell? a = some v :=
 h.cell (a, v) (List.mem_of_getElem? hk)
theorem Sd.call {w6 w w' : World} {D : List Nat} {cells : List (Addr × Value)} (h : Sd w6 D cells w) (hc : Chg w w' []) : Sd w6 D cells w' :=
 ⟨h.chg.trans hc (by simp), fun p hp => hc.cell (h.cell p hp) (by simp)⟩
theorem Reg.keep_call (r : Reg) {w6 w w' : World} {D U : List Nat} (hF : r.F = Fd w6 D U) (hc : Chg w w' []) : r.Keep w w' :=
 ⟨hc.size, fun g hg h => ⟨by rw [hF] at h ⊢; exact h, hc.block g hg (by simp)⟩⟩
theorem stands_d (r : Reg) (w6 : World) (D U : List Nat) (cells : List (Addr × Value)) (hS : r.S = fun _ => Sd w6 D cells) (hF : r.F = Fd w6 D U) (hB : r.B = 0)
 (hU : ∀ p ∈ cells, p.1.block ∈ U) (hlt : ∀ u ∈ U, u < w6.heap.size) : r.Stands := by
 refine ⟨fun n w o h => ?_, fun n w o g _ h => ?_, fun n w o h => ?_, fun n w w' g h hf _ _ hc hsz => ?_⟩
 · rw [hS] at h ⊢; exact h.call ((Chg.refl w []).alloc o)
 · rw [hF] at h ⊢; exact h
 · rw [hS] at h
   rw [hF, hB]
   have := h.chg.size
   refine ⟨⟨fun hu => ?_, .inr this⟩, Nat.zero_le _⟩
   have := hlt _ hu
   omega
 · rw [hS] at h ⊢
   rw [hF] at hf ⊢
   refine ⟨⟨h.chg.trans hc (by simpa using hf.2), fun p hp => ?_⟩, fun g' h' => h'⟩
   exact hc.cell (h.cell p hp) (by simp; intro e; exact hf.1 (e ▸ hU p hp))
theorem hold_of {n : Nat} {ops : Array Oper} {a0 : Act} {VL : List Value} {NL : List (Nat → Value)} {KL : List Kd} {olds : List (TypeId × List Value)} {OL : List Nat} {E : List Nat} {S : Nat → World → Prop} {F : World → Nat → Prop} {w w1 : World} (hn : ops.size = n)
 (h : ∀ k T c, olds[k]? = some (T, c) → Blk w (OL.getD k 0) T c ∧ F w1 (OL.getD k 0)) :
 ∀ j T c, (Reg.of n ops a0 VL NL KL olds OL E S F).kd j = .new T c → (Reg.of n ops a0 VL NL KL olds OL E S F).ops.size ≤ j → Blk w ((Reg.of n ops a0 VL NL KL olds OL E S F).O j) T c ∧ (Reg.of n ops a0 VL NL KL olds OL E S F).F w1 ((Reg.of n ops a0 VL NL KL olds OL E S F).O j) ∧ (Reg.of n ops a0 VL NL KL olds OL E S F).B ≤ (Reg.of n ops a0 VL NL KL olds OL E S F).O j := by
 intro j T c hj hle
 have hle' : ops.size ≤ j := hle
 have hj' : kdOf n KL olds j = .new T c := hj
 unfold kdOf at hj'
 rw [if_neg (by omega)] at hj'
 cases ho : olds[j - n]? with
 | none => rw [ho] at hj'; cases hj'
 | some p =>
  obtain ⟨T', c'⟩ := p
  rw [ho] at hj'
  injection hj' with h1 h2
  subst h1 h2
  have := h (j - n) T' c' ho
  exact ⟨this.1, this.2, Nat.zero_le _⟩
theorem ne_of {n : Nat} {ops : Array Oper} {a0 : Act} {VL : List Value} {NL : List (Nat → Value)} {KL : List Kd} {olds : List (TypeId × List Value)} {OL : List Nat} {E : List Nat} {S : Nat → World → Prop} {F : World → Nat → Prop} (hn : ops.size = n)
 (h : ∀ i j, i < olds.length → j < olds.length → i ≠ j → OL.getD i 0 ≠ OL.getD j 0) :
 ∀ i j, (Reg.of n ops a0 VL NL KL olds OL E S F).isNew i = true → (Reg.of n ops a0 VL NL KL olds OL E S F).isNew j = true → (Reg.of n ops a0 VL NL KL olds OL E S F).ops.size ≤ i → (Reg.of n ops a0 VL NL KL olds OL E S F).ops.size ≤ j → i ≠ j → (Reg.of n ops a0 VL NL KL olds OL E S F).O i ≠ (Reg.of n ops a0 VL NL KL olds OL E S F).O j := by
 have key : ∀ i, (Reg.of n ops a0 VL NL KL olds OL E S F).isNew i = true → n ≤ i → i - n < olds.length := fun i h1 h2 => by
  have h1' : (match kdOf n KL olds i with | .new _ _ => true | _ => false) = true := h1
  unfold kdOf at h1'
  rw [if_neg (by omega)] at h1'
  cases ho : olds[i - n]? with
  | none => rw [ho] at h1'; cases h1'
  | some p => exact (List.getElem?_eq_some_iff.1 ho).1
 intro i j h1 h2 h3 h4 h5
 have h3' : ops.size ≤ i := h3
 have h4' : ops.size ≤ j := h4
 exact h (i - n) (j - n) (key i h1 (by omega)) (key j h2 (by omega)) (by omega)
theorem end_of {r : Reg} {Q : Exit → Act → World → Prop} {γ : Nat → Nat} {w' : World} (l : List (Nat × Value)) (ht : Reg.fin r γ r.ops.size r.a0.tmps = l.foldl (fun t p => t.setIfInBounds p.1 p.2) r.a0.tmps)
 (h : Q .normal { tmps := l.foldl (fun t p => t.setIfInBounds p.1 p.2) r.a0.tmps, defers := r.a0.defers } w') :
 Q .normal { tmps := Reg.fin r γ r.ops.size r.a0.tmps, defers := r.a0.defers } w' := by rw [ht]; exact h
end Go.Proofs.YtihgijhjhmjolaaGreatDoor

/- The mill of numbers: its cells and tables. -/
namespace Go.Proofs.YtihgijhjhmjolaaGreatDoor
open Go.RowKit Go.Deep
set_option linter.unusedVariables false
structure Pl (w : World) (b : Nat) (cs : List Wd) (ts : List Value) (vc vt : Value) : Prop where
 blk : Blk w b 155 [vc, vt]
 row : w.ownsRow 0 21 1 vc cs.length (wds cs)
 tab : w.ownsRow 0 110 1 vt ts.length ts
 ne : vc.ownBlock ≠ some b ∧ vt.ownBlock ≠ some b ∧ (vc.ownBlock = none ∨ vc.ownBlock ≠ vt.ownBlock)
set_option maxRecDepth 100000 in
set_option maxHeartbeats 1000000 in
theorem loop_calls (p : Value) (f : FuncId) (caps : Array Value) (n : Nat) (hn : n ≤ 1000) (I : Nat → World → Prop) (w : World)
 (hf : ∀ (x : Value) (w : World), Sem.run Tryz.prog (callFunc f (#[x] ++ caps)) w = Result.ok (Next.enter f (#[x] ++ caps)) w)
 (h : ∀ i w, i < n → I i w → Calls Tryz.prog f (#[.int .i32 i] ++ caps) w fun e w' => e = .returned (.tuple #[]) ∧ I (i + 1) w') (h0 : I 0 w) :
 Calls Tryz.prog 204 #[p, .int .i64 n, .func (.func f) #[] caps] w fun e w' => e = .returned (.tuple #[]) ∧ I n w' := by
 have H := hide h
 clear h
 have H0 := hide h0
 clear h0
 go_enter Tryz.func204, Tryz.ntmps204
 go_wp2
 go_loopw [8] (fun i wr => ∃ k : Nat, k ≤ n ∧ i = .int .i64 k ∧ Hid (I k wr)) (fun i _ => n - (intOf i).toNat)
 case atStart => exact ⟨0, Nat.zero_le _, rfl, H0⟩
 case round =>
  obtain ⟨k, hk, rfl, HI⟩ := hrel
  by_cases hlt : k < n
  · go_wp2_with fail
    refine (H.out k _ hlt HI.out).mono ?_
    rintro e w1 ⟨rfl, hI⟩
    have HI2 := hide hI
    clear hI
    go_wp2
    go_roundw
    case rel => exact ⟨k + 1, by omega, by go_num, HI2⟩
    case measure => simp [intOf]; omega
  · have hk : k = n := by omega
    subst hk
    go_wp2
    go_end0
    exact ⟨rfl, HI.out⟩
theorem info_parts {t : TypeId} {z : Value} {n m : Nat} (h : (Tryz.prog.info? t).map (fun i => (i.zero, i.size, i.bytes)) = some (some z, n, m)) :
 ∃ i0, Tryz.prog.info? t = some i0 ∧ i0.zero = some z ∧ i0.size = n ∧ i0.bytes = m := by
 cases hi : Tryz.prog.info? t with
 | none => rw [hi] at h; cases h
 | some i => rw [hi] at h; simp only [Option.map_some, Option.some.injEq, Prod.mk.injEq] at h; exact ⟨i, rfl, h.1, h.2.1, h.2.2⟩
theorem info_i32_0 : (Tryz.prog.info? 21).map (fun i => (i.zero, i.size, i.bytes)) = some (some (.int .i32 0), 1, 4) := by kernel_rfl
theorem row_at {w : World} {e : TypeId} {v : Value} {n : Nat} {xs : List Value} (h : w.ownsRow 0 e 1 v n xs) {k : Nat} {u : Value} (hk : xs[k]? = some u) :
 ∃ g cap, v = .slice (some ⟨g, 0, none⟩) n cap ∧ w.cell? ⟨g, k, none⟩ = some u ∧ w.frozen? ⟨g, k, none⟩ = false := by
 have hl := h.1
 have hkl : k < xs.length := (List.getElem?_eq_some_iff.1 hk).1
 rcases h.2 with ⟨rfl, h0⟩ | ⟨g, cap, cur, rfl, h1, h2, h3, h4, h5, h6⟩
 · omega
 · refine ⟨g, cap, rfl, ?_, by simp [World.frozen?, h2]⟩
   have := h.cells (g := g) rfl k u hk
   rwa [add_plain, Nat.zero_add] at this
set_option maxRecDepth 100000 in
set_option maxHeartbeats 1000000 in
theorem get_calls (b k : Nat) (cs : List Wd) (ts : List Value) (vc vt : Value) (w : World) (h : Pl w b cs ts vc vt) (hk : k < cs.length) (hb : cs.length ≤ 1000) :
 Calls Tryz.prog 203 #[.pointer (some ⟨b, 0, none⟩), .int .i64 k] w fun e w' => e = .returned (.int .i32 (cs[k]).v) ∧ Chg w w' [] := by
 obtain ⟨g, cap, hv, hc, hf⟩ := row_at h.row (wds_at cs k hk)
 have c0 := h.blk.cell' (i := 0) rfl
 rw [hv] at c0
 have hlt : ((k : Nat) : Int) < (cs.length : Int) := by omega
 have HC := hide (Chg.refl w [])
 generalize cs[k] = x at *
 clear h hv hf hk
 go_enter Tryz.func203, Tryz.ntmps203
 go_wp2
 go_ret
 exact ⟨rfl, HC.out⟩
theorem one_wds (l : List Wd) : ∀ v ∈ wds l, v.oneCell' = true := by
 intro v hv
 obtain ⟨z, _, rfl⟩ := List.mem_map.1 hv
 rfl
def own (b : Nat) (vc vt : Value) : List Nat := b :: (vc.ownBlock.toList ++ vt.ownBlock.toList)
theorem mem_own {b : Nat} {vc vt : Value} {k : Nat} : k ∈ own b vc vt ↔ k = b ∨ vc.ownBlock = some k ∨ vt.ownBlock = some k := by
 unfold own; simp [Option.mem_toList]
theorem ownsRow_chg {w w' : World} {D : List Nat} {base : Nat} {e : TypeId} {size : Nat} {v : Value} {n : Nat} {xs : List Value} (h : w.ownsRow base e size v n xs) (hc : Chg w w' D) (hD : ∀ g, v.ownBlock = some g → g ∉ D) : w'.ownsRow base e size v n xs := by
 refine ⟨h.1, ?_⟩
 rcases h.2 with h0 | ⟨g, cap, cur, rfl, h1, h2, h3⟩
 · exact .inl h0
 · exact .inr ⟨g, cap, cur, rfl, h1, hc.heap h2 (hD g rfl), h3⟩
theorem ownsRow_set {w : World} {base : Nat} {e : TypeId} {v : Value} {n g c k : Nat} {xs : List Value} (h : w.ownsRow base e 1 v n xs) (hv : v = .slice (some ⟨g, 0, none⟩) n c) (hk : k < n) (u : Value) : (w.setCell ⟨g, k, none⟩ u).ownsRow base e 1 v n (xs.set k u) := by
 refine ⟨by simpa using h.1, ?_⟩
 rcases h.2 with ⟨h0, _⟩ | ⟨g', cap, cur, h0, h1, h2, h3, h4, h5, h6⟩
 · rw [hv] at h0; cases h0
 · rw [hv] at h0
   injection h0 with hg _ hcap
   injection hg with hg
   injection hg with hg _ _
   subst hg hcap
   refine .inr ⟨g, c, cur.setIfInBounds k u, hv, h1, ?_, h3, h4, by simpa using h5, ?_⟩
   · simp [World.setCell, Array.getElem?_modify, h2]
   · rw [← h6]
     simp [List.take_set]
theorem ownsRow_lt {w : World} {base : Nat} {e : TypeId} {size : Nat} {v : Value} {n : Nat} {xs : List Value} (h : w.ownsRow base e size v n xs) {g : Nat} (hg : v.ownBlock = some g) : g < w.heap.size := by
 rcases h.2 with ⟨rfl, _⟩ | ⟨g', cap, cur, rfl, _, h2, _⟩
 · cases hg
 · injection hg with hg; subst hg; exact lt_of_heap h2
theorem Pl.chg {w w' : World} {b : Nat} {cs : List Wd} {ts : List Value} {vc vt : Value} {D : List Nat} (h : Pl w b cs ts vc vt) (hc : Chg w w' D) (hD : ∀ k ∈ own b vc vt, k ∉ D) : Pl w' b cs ts vc vt :=
 ⟨h.blk.chg hc (hD b (mem_own.2 (.inl rfl))), ownsRow_chg h.row hc (fun g hg => hD g (mem_own.2 (.inr (.inl hg)))), ownsRow_chg h.tab hc (fun g hg => hD g (mem_own.2 (.inr (.inr hg)))), h.ne⟩
theorem Pl.lt {w : World} {b : Nat} {cs : List Wd} {ts : List Value} {vc vt : Value} (h : Pl w b cs ts vc vt) : ∀ k ∈ own b vc vt, k < w.heap.size := fun k hk => by
 rcases mem_own.1 hk with rfl | hk | hk
 · exact h.blk.lt
 · exact ownsRow_lt h.row hk
 · exact ownsRow_lt h.tab hk
set_option maxRecDepth 100000 in
set_option maxHeartbeats 1000000 in
theorem set_calls (b k : Nat) (x : Wd) (cs : List Wd) (ts : List Value) (vc vt : Value) (w : World) (h : Pl w b cs ts vc vt) (hk : k < cs.length) (hb : cs.length ≤ 1000) :
 Calls Tryz.prog 205 #[.pointer (some ⟨b, 0, none⟩), .int .i64 k, .int .i32 x.v] w fun e w' => e = .returned (.tuple #[]) ∧ Pl w' b (cs.set k x) ts vc vt ∧ Chg w w' (own b vc vt) := by
 obtain ⟨g, cap, hv, hc, hf⟩ := row_at h.row (wds_at cs k hk)
 have c0 := h.blk.cell' (i := 0) rfl
 rw [hv] at c0
 have hlt : ((k : Nat) : Int) < (cs.length : Int) := by omega
 have hgb : g ≠ b := fun e => h.ne.1 (by rw [hv, e]; rfl)
 have hgt : vt.ownBlock ≠ some g := fun e => by
  rcases h.ne.2.2 with h1 | h1
  · rw [hv] at h1; cases h1
  · exact h1 (by rw [hv, e]; rfl)
 have HP : Hid (Pl (w.setCell ⟨g, k, none⟩ (.int .i32 x.v)) b (cs.set k x) ts vc vt) := by
  refine ⟨h.blk.far (Ne.symm hgb) _, ?_, ownsRow_setCell_other h.tab hgt _, h.ne⟩
  have := ownsRow_set h.row hv hk (.int .i32 x.v)
  simpa [wds, List.map_set] using this
 have HC : Hid (Chg w (w.setCell ⟨g, k, none⟩ (.int .i32 x.v)) (own b vc vt)) := (Chg.refl w _).setCell _ _ (.inl (mem_own.2 (.inr (.inl (by rw [hv]; rfl)))))
 generalize cs[k] = y at *
 clear h hv hk hgb hgt
 go_enter Tryz.func205, Tryz.ntmps205
 go_wp2
 go_end0
 exact ⟨rfl, HP.out, HC.out⟩
set_option maxRecDepth 100000 in
set_option maxHeartbeats 1000000 in
theorem cell_calls (b : Nat) (x : Wd) (cs : List Wd) (ts : List Value) (vc vt : Value) (w : World) (h : Pl w b cs ts vc vt) (hb : cs.length ≤ 1000) :
 Calls Tryz.prog 199 #[.pointer (some ⟨b, 0, none⟩), .int .i32 x.v] w fun e w' => e = .returned (.int .i64 cs.length) ∧ ∃ vc', Pl w' b (cs ++ [x]) ts vc' vt ∧ Chg w w' (own b vc vt) ∧ (vc'.ownBlock = vc.ownBlock ∨ ∃ g, vc'.ownBlock = some g ∧ w.heap.size ≤ g) := by
 have c0 := h.blk.cell' (i := 0) rfl
 have hf0 := h.blk.frozen 0
 obtain ⟨i0, hi0, hz0, hz1, hz2⟩ := info_parts info_i32_0
 have HP := hide h
 have hal := (Chg.refl w []).alloc (.cells #[.int .i32 x.v] 21)
 have hrow := ownsRow_chg h.row hal (by simp)
 have hsl : Sl (w.alloc (.cells #[.int .i32 x.v] 21)) (.slice (some ⟨w.heap.size, 0, none⟩) 1 1) (wds [x]) := Sl.blk' (Blk.new w 21 [.int .i32 x.v]) rfl (Nat.le_refl _)
 have h63 : cs.length + (wds [x]).length ≤ maxLen := by unfold maxLen; simp [wds]; omega
 have hby : (cs.length + (wds [x]).length) * 4 ≤ 140737488355328 := by simp [wds]; omega
 have hL : cs.length + (wds [x]).length = cs.length + 1 := rfl
 have HB := hide (h.blk.alloc (.cells #[.int .i32 x.v] 21))
 clear h
 go_enter Tryz.func199, Tryz.ntmps199
 go_wp2_with (at_builtin; refine wpList_append_sl rfl (.tmp 9) (.tmp 11) 110 rfl 0 21 i0 (.int .i32 0) 4 Tryz.underlying110 hi0 hz0 hz1 hz2 rfl vc cs.length (wds cs) rfl hrow (.slice (some ⟨w.heap.size, 0, none⟩) 1 1) (wds [x]) rfl hsl (one_wds _) h63 hby (Nat.zero_le _) ?_)
 intro v1 w1 hown hgr hat
 have hbn : b ∉ vc.ownBlock.toList := by simp [Option.mem_toList]; exact HP.out.ne.1
 have hgc : Chg (w.alloc (.cells #[.int .i32 x.v] 21)) w1 vc.ownBlock.toList := Chg.of_grown hgr (fun k hk => .inl (by simp [hk]))
 have B1 : Blk w1 b 155 [vc, vt] := HB.out.chg hgc hbn
 have c1 := B1.cell' (i := 0) rfl
 have f1 := B1.frozen 0
 have hown2 : w1.ownsRow 0 21 1 v1 (cs ++ [x]).length (wds (cs ++ [x])) := by
  have : wds (cs ++ [x]) = wds cs ++ wds [x] := by simp [wds]
  rw [this, List.length_append]
  exact hown
 obtain ⟨g, cap, rest, hv1, hg, hblk, hcap⟩ := own_form hown (by simp)
 have B2 := B1.set_ 0 v1
 have hgb : v1.ownBlock ≠ some b := by
  rcases hat with h1 | h1
  · rw [h1]; exact HP.out.ne.1
  · rw [h1]; intro e; injection e with e; have := HP.out.blk.lt; omega
 have hvt : v1.ownBlock ≠ vt.ownBlock := by
  rcases hat with h1 | h1
  · rw [h1]
    rcases HP.out.ne.2.2 with h2 | h2
    · intro e; rw [← h1] at h2; rw [hv1] at h2; cases h2
    · exact h2
  · rw [h1]; intro e; have := ownsRow_lt HP.out.tab e.symm; omega
 have HP2 : Hid (Pl (w1.setCell ⟨b, 0, none⟩ v1) b (cs ++ [x]) ts v1 vt) := by
  refine ⟨B2, ownsRow_setCell_other hown2 hgb _, ownsRow_setCell_other (ownsRow_chg (ownsRow_chg HP.out.tab ((Chg.refl w []).alloc _) (by simp)) hgc ?_) HP.out.ne.2.1 _, hgb, HP.out.ne.2.1, .inr hvt⟩
  intro g' hg' hm
  simp [Option.mem_toList] at hm
  rcases HP.out.ne.2.2 with h2 | h2
  · rw [h2] at hm; cases hm
  · exact h2 (hm.trans hg'.symm)
 have HC2 : Hid (Chg w (w1.setCell ⟨b, 0, none⟩ v1) (own b vc vt)) :=
  ((((Chg.refl w (own b vc vt)).alloc _).trans hgc (D := own b vc vt) (fun k hk => .inl (mem_own.2 (.inr (.inl (by simpa using hk)))))).setCell _ _ (.inl (mem_own.2 (.inl rfl))))
 have hat' : v1.ownBlock = vc.ownBlock ∨ ∃ g, v1.ownBlock = some g ∧ w.heap.size ≤ g := hat.imp id (fun h => ⟨_, h, by simp⟩)
 clear hgr hown hbn hgc B1 B2 hgb hvt hown2 hblk hcap hg hat HB HP hrow hsl hal c0 hf0 h63 hby hL
 subst hv1
 have HF := hide hat'
 clear hat'
 go_wp2
 go_ret
 exact ⟨ret_int (by omega), _, HP2.out, HC2.out, HF.out⟩
theorem info_sl_0 : (Tryz.prog.info? 110).map (fun i => (i.zero, i.size, i.bytes)) = some (some (.slice none 0 0), 1, 24) := by kernel_rfl
set_option maxRecDepth 100000 in
set_option maxHeartbeats 1000000 in
theorem table_calls (b : Nat) (x : Value) (hx1 : x.oneCell' = true) (A : Option Addr) (xl xc : Nat) (hx : x = .slice A xl xc) (cs : List Wd) (ts : List Value) (vc vt : Value) (w : World) (h : Pl w b cs ts vc vt) (hb : ts.length ≤ 1000) :
 Calls Tryz.prog 206 #[.pointer (some ⟨b, 0, none⟩), x] w fun e w' => e = .returned (.int .i64 ts.length) ∧ ∃ vt', Pl w' b cs (ts ++ [x]) vc vt' ∧ Chg w w' (own b vc vt) ∧ (vt'.ownBlock = vt.ownBlock ∨ ∃ g, vt'.ownBlock = some g ∧ w.heap.size ≤ g) := by
 have c0 := h.blk.cell' (i := 1) rfl
 have hf0 := h.blk.frozen 1
 obtain ⟨i0, hi0, hz0, hz1, hz2⟩ := info_parts info_sl_0
 have HP := hide h
 subst hx
 have hone : ∀ u ∈ [Value.slice A xl xc], u.oneCell' = true := by simpa using hx1
 have hal := (Chg.refl w []).alloc (.cells #[Value.slice A xl xc] 110)
 have hrow := ownsRow_chg h.tab hal (by simp)
 have hsl : Sl (w.alloc (.cells #[Value.slice A xl xc] 110)) (.slice (some ⟨w.heap.size, 0, none⟩) 1 1) [Value.slice A xl xc] := Sl.blk' (Blk.new w 110 [Value.slice A xl xc]) rfl (Nat.le_refl _)
 have h63 : ts.length + [Value.slice A xl xc].length ≤ maxLen := by unfold maxLen; simp; omega
 have hby : (ts.length + [Value.slice A xl xc].length) * 24 ≤ 140737488355328 := by simp; omega
 have hL : ts.length + [Value.slice A xl xc].length = ts.length + 1 := rfl
 have HB := hide (h.blk.alloc (.cells #[Value.slice A xl xc] 110))
 clear h
 go_enter Tryz.func206, Tryz.ntmps206
 go_wp2_with (at_builtin; refine wpList_append_sl rfl (.tmp 9) (.tmp 11) 153 rfl 0 110 i0 (.slice none 0 0) 24 Tryz.underlying153 hi0 hz0 hz1 hz2 rfl vt ts.length ts rfl hrow (.slice (some ⟨w.heap.size, 0, none⟩) 1 1) [Value.slice A xl xc] rfl hsl hone h63 hby (Nat.zero_le _) ?_)
 intro v1 w1 hown hgr hat
 have hbn : b ∉ vt.ownBlock.toList := by simp [Option.mem_toList]; exact HP.out.ne.2.1
 have hgc : Chg (w.alloc (.cells #[Value.slice A xl xc] 110)) w1 vt.ownBlock.toList := Chg.of_grown hgr (fun k hk => .inl (by simp [hk]))
 have B1 : Blk w1 b 155 [vc, vt] := HB.out.chg hgc hbn
 have c1 := B1.cell' (i := 1) rfl
 have f1 := B1.frozen 1
 have hown2 : w1.ownsRow 0 110 1 v1 (ts ++ [Value.slice A xl xc]).length (ts ++ [Value.slice A xl xc]) := by
  rw [List.length_append]
  exact hown
 obtain ⟨g, cap, rest, hv1, hg, hblk, hcap⟩ := own_form hown (by simp)
 have B2 := B1.set_ 1 v1
 have hgb : v1.ownBlock ≠ some b := by
  rcases hat with h1 | h1
  · rw [h1]; exact HP.out.ne.2.1
  · rw [h1]; intro e; injection e with e; have := HP.out.blk.lt; omega
 have hvt : vc.ownBlock = none ∨ vc.ownBlock ≠ v1.ownBlock := by
  rcases hat with h1 | h1
  · rw [h1]; exact HP.out.ne.2.2
  · rw [h1]; right; intro e; have := ownsRow_lt HP.out.row e; omega
 have HP2 : Hid (Pl (w1.setCell ⟨b, 1, none⟩ v1) b cs (ts ++ [Value.slice A xl xc]) vc v1) := by
  refine ⟨B2, ownsRow_setCell_other (ownsRow_chg (ownsRow_chg HP.out.row ((Chg.refl w []).alloc _) (by simp)) hgc ?_) HP.out.ne.1 _, ownsRow_setCell_other hown2 hgb _, HP.out.ne.1, hgb, hvt⟩
  intro g' hg' hm
  simp [Option.mem_toList] at hm
  rcases HP.out.ne.2.2 with h2 | h2
  · rw [h2] at hg'; cases hg'
  · exact h2 (hg'.trans hm.symm)
 have HC2 : Hid (Chg w (w1.setCell ⟨b, 1, none⟩ v1) (own b vc vt)) :=
  ((((Chg.refl w (own b vc vt)).alloc _).trans hgc (D := own b vc vt) (fun k hk => .inl (mem_own.2 (.inr (.inr (by simpa using hk)))))).setCell _ _ (.inl (mem_own.2 (.inl rfl))))
 have hat' : v1.ownBlock = vt.ownBlock ∨ ∃ g, v1.ownBlock = some g ∧ w.heap.size ≤ g := hat.imp id (fun h => ⟨_, h, by simp⟩)
 clear hgr hown hbn hgc B1 B2 hgb hvt hown2 hblk hcap hg hat HB HP hrow hsl hal hone c0 hf0 h63 hby hL
 subst hv1
 have HF := hide hat'
 clear hat'
 go_wp2
 go_ret
 exact ⟨ret_int (by omega), _, HP2.out, HC2.out, HF.out⟩
set_option maxRecDepth 100000 in
set_option maxHeartbeats 1000000 in
theorem at_calls (b k i : Nat) (l : List Wd) (v : Value) (cs : List Wd) (ts : List Value) (vc vt : Value) (w : World) (h : Pl w b cs ts vc vt) (hk : ts[k]? = some v) (hv : Sl w v (wds l)) (hi : i < l.length) (hb : ts.length ≤ 1000) (hl : l.length ≤ 1000) :
 Calls Tryz.prog 198 #[.pointer (some ⟨b, 0, none⟩), .int .i64 k, .int .i32 i] w fun e w' => e = .returned (.int .i32 (l[i]).v) ∧ Chg w w' [] := by
 obtain ⟨g, cap, hvt, hc, hf⟩ := row_at h.tab hk
 have c0 := h.blk.cell' (i := 1) rfl
 rw [hvt] at c0
 have hkl : k < ts.length := (List.getElem?_eq_some_iff.1 hk).1
 have hlt : ((k : Nat) : Int) < (ts.length : Int) := by omega
 obtain ⟨A, c, hv2, hcap, _⟩ := id hv
 rw [length_wds] at hv2 hcap
 rw [hv2] at hc hv
 obtain ⟨gb, off, hA, hca, _⟩ := hv.at_ (wds_at l i hi)
 subst hA
 have hlt2 : ((i : Nat) : Int) < (l.length : Int) := by omega
 have hlt3 : ¬ ((l.length : Nat) : Int) ≤ (i : Int) := by omega
 have HC := hide (Chg.refl w [])
 generalize l[i] = x at *
 clear h hvt hf hk hv hv2 hcap
 go_enter Tryz.func198, Tryz.ntmps198
 go_wp2
 go_ret
 exact ⟨rfl, HC.out⟩
set_option maxRecDepth 100000 in
theorem numbers_calls (w : World) :
 Calls Tryz.prog 49 #[] w fun e w' => ∃ b, e = .returned (.agg #[.iface 152 (.pointer (some ⟨b, 0, none⟩))]) ∧ Pl w' b [] [] (.slice none 0 0) (.slice none 0 0) ∧ Chg w w' [] ∧ w.heap.size ≤ b := by
 go_enter Tryz.func49, Tryz.ntmps49
 go_wp2
 have k0 := (Blk.new w 106 [.iface 152 (.pointer (some ⟨w.heap.size + 1, 0, none⟩))]).alloc (.cells #[.slice none 0 0, .slice none 0 0] 155)
 have k1 := Blk.new (w.alloc (.cells #[.iface 152 (.pointer (some ⟨w.heap.size + 1, 0, none⟩))] 106)) 155 [.slice none 0 0, .slice none 0 0]
 rw [size_alloc] at k1
 have c0 := k0.cell' (i := 0) rfl
 refine bodyPost_ret (v := .agg #[.iface 152 (.pointer (some ⟨w.heap.size + 1, 0, none⟩))]) (by simp [results, Tryz.f49, go_sem, c0]) rfl ⟨w.heap.size + 1, rfl, ⟨k1, World.ownsRow_nil _ _ _ _, World.ownsRow_nil _ _ _ _, by simp [Value.ownBlock], by simp [Value.ownBlock], .inl rfl⟩, ((Chg.refl w []).alloc _).alloc _, by omega⟩
end Go.Proofs.YtihgijhjhmjolaaGreatDoor

/- Regions by slots, for walks that use the mill of numbers at block b. -/
namespace Go.Proofs.YtihgijhjhmjolaaGreatDoor
open Go.RowKit Go.Deep
set_option linter.unusedVariables false
def dof (w : World) (b : Nat) : List Nat := own b (cellAt w ⟨b, 0, none⟩) (cellAt w ⟨b, 1, none⟩)
section
variable {w w' w'' : World} {b : Nat} {cs : List Wd} {ts : List Value} {vc vt : Value}
theorem Pl.dof (h : Pl w b cs ts vc vt) : dof w b = own b vc vt := by
 unfold Proofs.YtihgijhjhmjolaaGreatDoor.dof
 rw [cellAt_is (h.blk.cell' (i := 0) rfl), cellAt_is (h.blk.cell' (i := 1) rfl)]
def PlR (w : World) (b : Nat) (R : List Wd → List Value → Prop) : Prop := ∃ cs ts vc vt, R cs ts ∧ Pl w b cs ts vc vt
def most (n : Nat) (cs : List Wd) (ts : List Value) : Prop := cs.length ≤ n ∧ ts.length ≤ n
theorem PlR.lt {R : List Wd → List Value → Prop} (h : PlR w b R) : ∀ k ∈ Proofs.YtihgijhjhmjolaaGreatDoor.dof w b, k < w.heap.size := by
 obtain ⟨cs, ts, vc, vt, _, h⟩ := h
 rw [h.dof]; exact h.lt
theorem PlR.mem {R : List Wd → List Value → Prop} (h : PlR w b R) : b ∈ Proofs.YtihgijhjhmjolaaGreatDoor.dof w b := by unfold Proofs.YtihgijhjhmjolaaGreatDoor.dof own; simp
structure Turn (w : World) (b : Nat) (w' : World) : Prop where
 chg : Chg w w' (Proofs.YtihgijhjhmjolaaGreatDoor.dof w b)
 sub : ∀ k ∈ Proofs.YtihgijhjhmjolaaGreatDoor.dof w' b, k ∈ Proofs.YtihgijhjhmjolaaGreatDoor.dof w b ∨ w.heap.size ≤ k
theorem Turn.refl (w : World) (b : Nat) : Turn w b w := ⟨Chg.refl _ _, fun k h => .inl h⟩
theorem Turn.trans (h : Turn w b w') (h' : Turn w' b w'') : Turn w b w'' :=
 ⟨h.chg.trans h'.chg h.sub, fun k hk => by
   rcases h'.sub k hk with h1 | h1
   · exact h.sub k h1
   · have := h.chg.size; right; omega⟩
theorem dof_chg {D : List Nat} {R : List Wd → List Value → Prop} (h : PlR w b R) (hc : Chg w w' D) (hb : b ∉ D) : Proofs.YtihgijhjhmjolaaGreatDoor.dof w' b = Proofs.YtihgijhjhmjolaaGreatDoor.dof w b := by
 obtain ⟨cs, ts, vc, vt, _, h⟩ := h
 have hb' := h.blk.chg hc hb
 rw [h.dof]
 unfold Proofs.YtihgijhjhmjolaaGreatDoor.dof
 rw [cellAt_is (hb'.cell' (i := 0) rfl), cellAt_is (hb'.cell' (i := 1) rfl)]
theorem PlR.chg {D : List Nat} {R : List Wd → List Value → Prop} (h : PlR w b R) (hc : Chg w w' D) (hD : ∀ k ∈ Proofs.YtihgijhjhmjolaaGreatDoor.dof w b, k ∉ D) : PlR w' b R := by
 obtain ⟨cs, ts, vc, vt, hr, h⟩ := h
 exact ⟨cs, ts, vc, vt, hr, h.chg hc (by rw [← h.dof]; exact hD)⟩
theorem PlR.mono {R R' : List Wd → List Value → Prop} (h : PlR w b R) (hR : ∀ cs ts, R cs ts → R' cs ts) : PlR w b R' := by
 obtain ⟨cs, ts, vc, vt, hr, h⟩ := h
 exact ⟨cs, ts, vc, vt, hR _ _ hr, h⟩
theorem Turn.call {R : List Wd → List Value → Prop} (h : PlR w b R) (hc : Chg w w' []) : Turn w b w' :=
 ⟨hc.more (by simp), fun k hk => .inl (by rw [← dof_chg h hc (by simp)]; exact hk)⟩
theorem turn_of {vc' vt' : Value} {cs' : List Wd} {ts' : List Value} (h : Pl w b cs ts vc vt) (h' : Pl w' b cs' ts' vc' vt') (hc : Chg w w' (own b vc vt))
 (h1 : vc'.ownBlock = vc.ownBlock ∨ ∃ g, vc'.ownBlock = some g ∧ w.heap.size ≤ g) (h2 : vt'.ownBlock = vt.ownBlock ∨ ∃ g, vt'.ownBlock = some g ∧ w.heap.size ≤ g) : Turn w b w' := by
 refine ⟨by rw [h.dof]; exact hc, fun k hk => ?_⟩
 rw [h'.dof] at hk
 rw [h.dof]
 rcases mem_own.1 hk with rfl | hk | hk
 · exact .inl (mem_own.2 (.inl rfl))
 · rcases h1 with h1 | ⟨g, hg, hle⟩
   · exact .inl (mem_own.2 (.inr (.inl (h1 ▸ hk))))
   · rw [hg] at hk; injection hk with hk; subst hk; exact .inr hle
 · rcases h2 with h2 | ⟨g, hg, hle⟩
   · exact .inl (mem_own.2 (.inr (.inr (h2 ▸ hk))))
   · rw [hg] at hk; injection hk with hk; subst hk; exact .inr hle
end
structure Sp (w6 : World) (b : Nat) (R : Nat → List Wd → List Value → Prop) (D : List Nat) (cells : List (Addr × Value)) (k : Nat) (w : World) : Prop where
 pl : PlR w b (R k)
 chg : Chg w6 w (dof w6 b ++ D)
 sub : ∀ j ∈ dof w b, j ∈ dof w6 b ∨ w6.heap.size ≤ j
 cell : ∀ p ∈ cells, w.cell? p.1 = some p.2
def Fp (w6 : World) (b : Nat) (D U : List Nat) (w : World) (g : Nat) : Prop := g ∉ U ∧ g ∉ dof w b ∧ (g ∈ D ∨ w6.heap.size ≤ g)
section
variable {w6 w w' : World} {b k : Nat} {R : Nat → List Wd → List Value → Prop} {D U : List Nat} {cells : List (Addr × Value)}
theorem Sp.at_ (h : Sp w6 b R D cells k w) (i : Nat) (a : Addr) (v : Value) (hi : cells[i]? = some (a, v)) : w.cell? a = some v :=
 h.cell (a, v) (List.mem_of_getElem? hi)
theorem Sp.call (h : Sp w6 b R D cells k w) (hc : Chg w w' []) : Sp w6 b R D cells k w' :=
 ⟨h.pl.chg hc (by simp), h.chg.trans hc (by simp), by rw [dof_chg h.pl hc (by simp)]; exact h.sub, fun p hp => hc.cell (h.cell p hp) (by simp)⟩
structure Apart (w6 : World) (b : Nat) (D U : List Nat) (cells : List (Addr × Value)) : Prop where
 cell : ∀ p ∈ cells, p.1.block ∈ U
 lt : ∀ u ∈ U, u < w6.heap.size
 own : ∀ u ∈ U, u ∉ dof w6 b
 old : ∀ d ∈ D, d < w6.heap.size ∧ d ∉ dof w6 b
theorem Sp.apart (h : Sp w6 b R D cells k w) (ha : Apart w6 b D U cells) : ∀ u ∈ U, u ∉ dof w b := fun u hu hm => by
 rcases h.sub u hm with h1 | h1
 · exact ha.own u hu h1
 · have := ha.lt u hu; omega
theorem Sp.eff (h : Sp w6 b R D cells k w) (ha : Apart w6 b D U cells) (hp : PlR w' b (R (k + 1))) (ht : Turn w b w') : Sp w6 b R D cells (k + 1) w' := by
 refine ⟨hp, h.chg.trans ht.chg (fun j hj => ?_), fun j hj => ?_, fun p hp => ht.chg.cell (h.cell p hp) (h.apart ha _ (ha.cell p hp))⟩
 · rcases h.sub j hj with h1 | h1
   · exact .inl (List.mem_append_left _ h1)
   · exact .inr h1
 · rcases ht.sub j hj with h1 | h1
   · exact h.sub j h1
   · have := h.chg.size; right; omega
theorem Reg.keep_callp (r : Reg) (hF : r.F = Fp w6 b D U) (h : Sp w6 b R D cells k w) (hc : Chg w w' []) : r.Keep w w' :=
 ⟨hc.size, fun g hg hf => ⟨by rw [hF] at hf ⊢; exact ⟨hf.1, by rw [dof_chg h.pl hc (by simp)]; exact hf.2.1, hf.2.2⟩, hc.block g hg (by simp)⟩⟩
theorem Reg.keep_eff (r : Reg) (hF : r.F = Fp w6 b D U) (ht : Turn w b w') : r.Keep w w' :=
 ⟨ht.chg.size, fun g hg hf => by
   rw [hF] at hf ⊢
   refine ⟨⟨hf.1, fun hm => ?_, hf.2.2⟩, ht.chg.block g hg hf.2.1⟩
   rcases ht.sub g hm with h1 | h1
   · exact hf.2.1 h1
   · omega⟩
theorem stands_p (r : Reg) (ha : Apart w6 b D U cells) (hS : r.S = Sp w6 b R D cells) (hF : r.F = Fp w6 b D U) (hB : r.B = 0) : r.Stands := by
 refine ⟨fun n w o h => ?_, fun n w o g h hf => ?_, fun n w o h => ?_, fun n w w' g h hf _ _ hc hsz => ?_⟩
 · rw [hS] at h ⊢; exact h.call ((Chg.refl w []).alloc o)
 · rw [hS] at h; rw [hF] at hf ⊢
   exact ⟨hf.1, by rw [dof_chg h.pl ((Chg.refl w []).alloc o) (by simp)]; exact hf.2.1, hf.2.2⟩
 · rw [hS] at h
   rw [hF, hB]
   have := h.chg.size
   refine ⟨⟨fun hu => ?_, fun hm => ?_, .inr this⟩, Nat.zero_le _⟩
   · have := ha.lt _ hu; omega
   · rw [dof_chg h.pl ((Chg.refl w []).alloc o) (by simp)] at hm
     have := h.pl.lt _ hm; omega
 · rw [hS] at h ⊢
   rw [hF] at hf ⊢
   have hbg : b ∉ [g] := fun hm => by
    simp at hm; subst hm; exact hf.2.1 h.pl.mem
   have hd := dof_chg h.pl hc hbg
   refine ⟨⟨h.pl.chg hc (fun j hj hm => by simp at hm; subst hm; exact hf.2.1 hj), h.chg.trans hc ?_, by rw [hd]; exact h.sub, fun p hp => ?_⟩, fun g' h' => ⟨h'.1, by rw [hd]; exact h'.2.1, h'.2.2⟩⟩
   · intro j hj
     simp at hj
     subst hj
     exact hf.2.2.imp (fun h => List.mem_append_right _ h) id
   · exact hc.cell (h.cell p hp) (by simp; intro e; exact hf.1 (e ▸ ha.cell p hp))
theorem Sp.turn (h : Sp w6 b R [] cells k w) : Turn w6 b w := ⟨by simpa using h.chg, h.sub⟩
end
theorem Turn.region {w0 w6 w : World} {b k : Nat} {R : Nat → List Wd → List Value → Prop} {D : List Nat} {cells : List (Addr × Value)} (ht : Turn w0 b w6) (h : Sp w6 b R D cells k w) (hD : ∀ d ∈ D, w0.heap.size ≤ d) : Turn w0 b w := by
 refine ⟨ht.chg.trans h.chg (fun j hj => ?_), fun j hj => ?_⟩
 · rcases List.mem_append.1 hj with h1 | h1
   · exact ht.sub j h1
   · exact .inr (hD j h1)
 · rcases h.sub j hj with h1 | h1
   · exact ht.sub j h1
   · have := ht.chg.size; right; omega
theorem Sp.region {wb w6 w : World} {b k j : Nat} {R R' : Nat → List Wd → List Value → Prop} {D : List Nat} {cs cells : List (Addr × Value)} (h : Sp wb b R D cs j w6) (h' : Sp w6 b R' D cells k w) (hD : ∀ d ∈ D, d ∈ D) : Sp wb b R' D [] k w := by
 refine ⟨h'.pl, h.chg.trans h'.chg (fun i hi => ?_), fun i hi => ?_, by simp⟩
 · rcases List.mem_append.1 hi with h1 | h1
   · rcases h.sub i h1 with h2 | h2
     · exact .inl (List.mem_append_left _ h2)
     · exact .inr h2
   · exact .inl (List.mem_append_right _ h1)
 · rcases h'.sub i hi with h1 | h1
   · exact h.sub i h1
   · have := h.chg.size; right; omega
theorem Turn.put {w0 w w' : World} {b g : Nat} {R : List Wd → List Value → Prop} (h : Turn w0 b w) (hp : PlR w b R) (hc : Chg w w' [g]) (hg : g ∉ dof w b) (hle : w0.heap.size ≤ g) : Turn w0 b w' := by
 have hb : b ∉ [g] := fun hm => by simp at hm; subst hm; exact hg hp.mem
 refine ⟨h.chg.trans hc (fun k hk => by simp at hk; subst hk; exact .inr hle), fun k hk => ?_⟩
 rw [dof_chg hp hc hb] at hk
 exact h.sub k hk
theorem Sp.start {w6 : World} {b : Nat} {R : Nat → List Wd → List Value → Prop} {D : List Nat} {cells : List (Addr × Value)} (hp : PlR w6 b (R 0)) (hc : ∀ p ∈ cells, w6.cell? p.1 = some p.2) : Sp w6 b R D cells 0 w6.drew :=
 ⟨hp.chg (Chg.refl w6 []).drew (by simp), (Chg.refl w6 _).drew, fun j hj => .inl hj, hc⟩
theorem far_of {w w6 : World} {b : Nat} {R : List Wd → List Value → Prop} (hp : PlR w b R) (hc : Chg w w6 []) : ∀ u, w.heap.size ≤ u → u ∉ dof w6 b := fun u hu hm => by
 rw [dof_chg hp hc (by simp)] at hm
 have := hp.lt u hm
 omega
theorem Turn.far {w w' : World} {b u : Nat} (ht : Turn w b w') (hu : u < w.heap.size) (h : u ∉ dof w b) : u ∉ dof w' b := fun hm => by
 rcases ht.sub u hm with h1 | h1
 · exact h h1
 · omega
theorem Turn.cell {w w' : World} {b : Nat} {a : Addr} {v : Value} (ht : Turn w b w') (hc : w.cell? a = some v) (h : a.block ∉ dof w b) : w'.cell? a = some v := ht.chg.cell hc h
theorem nil_cell (p : Addr) (w : World) : (nilAhead 372 152 (.pointer (some p)) "Cell").run Tryz.prog w = .ok (some false) w := by kernel_rfl
theorem meth_cell (p : Addr) (w : World) : (method 372 152 (.pointer (some p)) "Cell").run Tryz.prog w = .ok (199, .pointer (some p)) w := by kernel_rfl
theorem nil_get (p : Addr) (w : World) : (nilAhead 372 152 (.pointer (some p)) "Get").run Tryz.prog w = .ok (some false) w := by kernel_rfl
theorem meth_get (p : Addr) (w : World) : (method 372 152 (.pointer (some p)) "Get").run Tryz.prog w = .ok (203, .pointer (some p)) w := by kernel_rfl
theorem nil_set (p : Addr) (w : World) : (nilAhead 372 152 (.pointer (some p)) "Set").run Tryz.prog w = .ok (some false) w := by kernel_rfl
theorem meth_set (p : Addr) (w : World) : (method 372 152 (.pointer (some p)) "Set").run Tryz.prog w = .ok (205, .pointer (some p)) w := by kernel_rfl
theorem nil_loop (p : Addr) (w : World) : (nilAhead 372 152 (.pointer (some p)) "Loop").run Tryz.prog w = .ok (some false) w := by kernel_rfl
theorem meth_loop (p : Addr) (w : World) : (method 372 152 (.pointer (some p)) "Loop").run Tryz.prog w = .ok (204, .pointer (some p)) w := by kernel_rfl
theorem nil_table (p : Addr) (w : World) : (nilAhead 372 152 (.pointer (some p)) "Table").run Tryz.prog w = .ok (some false) w := by kernel_rfl
theorem meth_table (p : Addr) (w : World) : (method 372 152 (.pointer (some p)) "Table").run Tryz.prog w = .ok (206, .pointer (some p)) w := by kernel_rfl
theorem nil_at (p : Addr) (w : World) : (nilAhead 372 152 (.pointer (some p)) "At").run Tryz.prog w = .ok (some false) w := by kernel_rfl
theorem meth_at (p : Addr) (w : World) : (method 372 152 (.pointer (some p)) "At").run Tryz.prog w = .ok (198, .pointer (some p)) w := by kernel_rfl
end Go.Proofs.YtihgijhjhmjolaaGreatDoor
