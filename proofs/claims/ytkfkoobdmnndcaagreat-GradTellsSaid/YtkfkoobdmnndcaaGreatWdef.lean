/- What the filter's steps reckon, as words. -/
import Derived.Test.YtkfkoobdmnndcaaGreatWd
namespace Go.Proofs.YtkfkoobdmnndcaaGreat
open Go.RowKit Go.Deep
set_option linter.unusedVariables false
def squareW (a b c : Wd) : Wd := addW (addW (mulW a a) (mulW b b)) (mulW c c)
def withinW (n low high : Wd) : Wd := subW (orW (sltuW n low) (sltuW high n)) (kW 1)
def scaledW (x z h : Wd) : Wd := shlW (mulqW x z) h
def lessW (x : Wd) (l : List Wd) : Wd := l.foldl subsW x
def moreW (x : Wd) (l : List Wd) : Wd := l.foldl addsW x
def normW (x : Wd) (l : List Wd) : Wd := l.foldl (fun s y => addsW s (mulqW y y)) (mulqW x x)
/-- A term: two places, taken away or added. -/
structure Tm where
  a : Nat
  b : Nat
  less : Bool
def pick (l : List Wd) (k : Nat) : Wd := l.getD k (kW 0)
def term (ps qs : List Wd) (t : Tm) : Wd := mulqW (pick ps t.a) (pick qs t.b)
def put1 (ps qs : List Wd) (s : Wd) (t : Tm) : Wd := bif t.less then subsW s (term ps qs t) else addsW s (term ps qs t)
def tot0 (ps qs : List Wd) (t : Tm) : Wd := bif t.less then subsW (kW 0) (term ps qs t) else term ps qs t
def totalW (ps qs : List Wd) (t : Tm) (l : List Tm) : Wd := l.foldl (put1 ps qs) (tot0 ps qs t)
/-- Four words. -/
structure Q4 where
  a : Wd
  b : Wd
  c : Wd
  d : Wd
def timesW (a b c d e f g h : Wd) : Q4 := ⟨totalW [a, b, c, d] [e, f, g, h] ⟨0, 0, false⟩ [⟨1, 1, true⟩, ⟨2, 2, true⟩, ⟨3, 3, true⟩], totalW [a, b, c, d] [e, f, g, h] ⟨0, 1, false⟩ [⟨1, 0, false⟩, ⟨2, 3, false⟩, ⟨3, 2, true⟩], totalW [a, b, c, d] [e, f, g, h] ⟨0, 2, false⟩ [⟨1, 3, true⟩, ⟨2, 0, false⟩, ⟨3, 1, false⟩], totalW [a, b, c, d] [e, f, g, h] ⟨0, 3, false⟩ [⟨1, 2, false⟩, ⟨2, 1, true⟩, ⟨3, 0, false⟩]⟩
def rateW (a b c d e f g : Wd) : Q4 := ⟨totalW [a, b, c, d] [e, f, g] ⟨1, 0, true⟩ [⟨2, 1, true⟩, ⟨3, 2, true⟩], totalW [a, b, c, d] [e, f, g] ⟨0, 0, false⟩ [⟨2, 2, false⟩, ⟨3, 1, true⟩], totalW [a, b, c, d] [e, f, g] ⟨0, 1, false⟩ [⟨1, 2, true⟩, ⟨3, 0, false⟩], totalW [a, b, c, d] [e, f, g] ⟨0, 2, false⟩ [⟨1, 1, false⟩, ⟨2, 0, true⟩]⟩
def pullF0 (q0 q1 q2 q3 a0 : Wd) : Wd := lessW (mulqW q1 q3) [mulqW q0 q2, downW a0 1]
def pullF1 (q0 q1 q2 q3 a1 : Wd) : Wd := lessW (moreW (mulqW q0 q1) [mulqW q2 q3]) [downW a1 1]
def pullF2 (q1 q2 a2 : Wd) : Wd := lessW (kW 536870912) [mulqW q1 q1, mulqW q2 q2, downW a2 1]
def pullOf (q0 q1 q2 q3 f0 f1 f2 : Wd) : Q4 :=
  ⟨downW (lessW (mulqW q1 f1) [mulqW q2 f0]) 1, lessW (downW (moreW (mulqW q3 f0) [mulqW q0 f1]) 1) [mulqW q1 f2], lessW (downW (lessW (mulqW q3 f1) [mulqW q0 f0]) 1) [mulqW q2 f2], downW (moreW (mulqW q1 f0) [mulqW q2 f1]) 1⟩
def pullW (q0 q1 q2 q3 a0 a1 a2 : Wd) : Q4 := pullOf q0 q1 q2 q3 (pullF0 q0 q1 q2 q3 a0) (pullF1 q0 q1 q2 q3 a1) (pullF2 q1 q2 a2)
/-- Three words. -/
structure T3 where
  a : Wd
  b : Wd
  c : Wd
def errorsW (q0 q1 q2 q3 bx bz f0 f1 f2 : Wd) : T3 :=
  ⟨lessW (moreW (mulqW bx (lessW (kW 536870912) [mulqW q2 q2, mulqW q3 q3])) [mulqW bz (lessW (mulqW q1 q3) [mulqW q0 q2])]) [downW f0 1],
   lessW (moreW (mulqW bx (lessW (mulqW q1 q2) [mulqW q0 q3])) [mulqW bz (moreW (mulqW q0 q1) [mulqW q2 q3])]) [downW f1 1],
   lessW (moreW (mulqW bx (moreW (mulqW q0 q2) [mulqW q1 q3])) [mulqW bz (lessW (kW 536870912) [mulqW q1 q1, mulqW q2 q2])]) [downW f2 1]⟩
def rootStep (u y : Wd) : Wd := addsW y (downW (mulqW y (subsW (kW 1073741824) (upW (mulqW u (mulqW y y)) 2))) 1)
def rootT (x : Wd) : Wd := andW (clzW x) (kW 30)
def rootU (x : Wd) : Wd := shrW (shlW x (rootT x)) (kW 2)
def rootZ0 (u : Wd) : Wd := subsW (kW 1184766729) (mulqW (kW 715827883) u)
def rootZ (u : Wd) : Nat → Wd
  | 0 => rootZ0 u
  | k + 1 => rootStep u (rootZ u k)
/-- z, and h. -/
def rootW (x : Wd) : Wd × Wd := (rootZ (rootU x) 4, shrW (rootT x) (kW 1))
def sqrtW (x : Wd) : Wd := scaledW x (rootW x).1 (rootW x).2
def pointW (x0 x1 x2 : Wd) : T3 := ⟨scaledW (upW x0 15) (rootW (squareW x0 x1 x2)).1 (rootW (squareW x0 x1 x2)).2, scaledW (upW x1 15) (rootW (squareW x0 x1 x2)).1 (rootW (squareW x0 x1 x2)).2, scaledW (upW x2 15) (rootW (squareW x0 x1 x2)).1 (rootW (squareW x0 x1 x2)).2⟩
def evenW (x0 x1 x2 x3 : Wd) : Q4 := ⟨scaledW x0 (rootW (addsW (normW x0 [x1, x2, x3]) (kW 1024))).1 (rootW (addsW (normW x0 [x1, x2, x3]) (kW 1024))).2, scaledW x1 (rootW (addsW (normW x0 [x1, x2, x3]) (kW 1024))).1 (rootW (addsW (normW x0 [x1, x2, x3]) (kW 1024))).2, scaledW x2 (rootW (addsW (normW x0 [x1, x2, x3]) (kW 1024))).1 (rootW (addsW (normW x0 [x1, x2, x3]) (kW 1024))).2, scaledW x3 (rootW (addsW (normW x0 [x1, x2, x3]) (kW 1024))).1 (rootW (addsW (normW x0 [x1, x2, x3]) (kW 1024))).2⟩
def sumW (a b c e0 e1 e2 : Wd) : Wd := downW (moreW (mulqW a e0) [mulqW b e1, mulqW c e2]) 1
/-- The field as the quaternion turns it. -/
def fieldH (q0 q1 q2 q3 f0 f1 f2 : Wd) : Q4 := timesW (rateW q0 q1 q2 q3 f0 f1 f2).a (rateW q0 q1 q2 q3 f0 f1 f2).b (rateW q0 q1 q2 q3 f0 f1 f2).c (rateW q0 q1 q2 q3 f0 f1 f2).d q0 (negW q1) (negW q2) (negW q3)
def fieldB (q0 q1 q2 q3 f0 f1 f2 : Wd) : Wd := sqrtW (normW (fieldH q0 q1 q2 q3 f0 f1 f2).b [(fieldH q0 q1 q2 q3 f0 f1 f2).c])
def fieldZ (q0 q1 q2 q3 f0 f1 f2 : Wd) : Wd := (fieldH q0 q1 q2 q3 f0 f1 f2).d
def fieldE (q0 q1 q2 q3 f0 f1 f2 : Wd) : T3 := errorsW q0 q1 q2 q3 (fieldB q0 q1 q2 q3 f0 f1 f2) (fieldZ q0 q1 q2 q3 f0 f1 f2) f0 f1 f2
def fieldX (q0 q1 q2 q3 f0 f1 f2 : Wd) : Q4 := ⟨mulqW (fieldB q0 q1 q2 q3 f0 f1 f2) q0, mulqW (fieldB q0 q1 q2 q3 f0 f1 f2) q1, mulqW (fieldB q0 q1 q2 q3 f0 f1 f2) q2, mulqW (fieldB q0 q1 q2 q3 f0 f1 f2) q3⟩
def fieldY (q0 q1 q2 q3 f0 f1 f2 : Wd) : Q4 := ⟨mulqW (fieldZ q0 q1 q2 q3 f0 f1 f2) q0, mulqW (fieldZ q0 q1 q2 q3 f0 f1 f2) q1, mulqW (fieldZ q0 q1 q2 q3 f0 f1 f2) q2, mulqW (fieldZ q0 q1 q2 q3 f0 f1 f2) q3⟩
def fieldOf (x y : Q4) (e : T3) : Q4 :=
  ⟨sumW (negW y.c) (lessW y.b [x.d]) x.c e.a e.b e.c,
   sumW y.d (moreW x.c [y.a]) (lessW x.d [y.b, y.b]) e.a e.b e.c,
   sumW (negW (moreW x.c [x.c, y.a])) (moreW x.b [y.d]) (lessW x.a [y.c, y.c]) e.a e.b e.c,
   sumW (lessW y.b [x.d, x.d]) (lessW y.c [x.a]) x.b e.a e.b e.c⟩
def fieldW (q0 q1 q2 q3 f0 f1 f2 : Wd) : Q4 := fieldOf (fieldX q0 q1 q2 q3 f0 f1 f2) (fieldY q0 q1 q2 q3 f0 f1 f2) (fieldE q0 q1 q2 q3 f0 f1 f2)
def turnsL : List Wd := [kW 421657428, kW 248918915, kW 131521918, kW 66762579, kW 33510843, kW 16771758, kW 8387925, kW 4194219, kW 2097141, kW 1048575, kW 524288, kW 262144, kW 131072, kW 65536, kW 32768, kW 16384, kW 8192, kW 4096, kW 2048, kW 1024, kW 512, kW 256, kW 128, kW 64, kW 32, kW 16, kW 8, kW 4]
def levelW (v s : Wd) : Wd := shrW (shlW v s) (kW 2)
def turnStep (i : Nat) (x y c : Wd) : T3 := ⟨addW x (flipW (sarW y (kW i)) (signW y)), subW y (flipW (sarW x (kW i)) (signW y)), addW c (flipW (turnsL.getD i (kW 0)) (signW y))⟩
def turnW (x y : Wd) : Nat → T3
  | 0 => ⟨x, y, kW 0⟩
  | i + 1 => turnStep i (turnW x y i).a (turnW x y i).b (turnW x y i).c
/-- The two numbers, leveled, and turned. -/
def angleA (y x : Wd) : T3 := turnW (levelW (maxW (absW x) (absW y)) (subW (clzW (maxW (absW x) (absW y))) (kW 1))) (levelW (minW (absW x) (absW y)) (subW (clzW (maxW (absW x) (absW y))) (kW 1))) 28
def angleBof (y x c : Wd) : Wd := selW (negW (sltW (absW x) (absW y))) (subW (kW 843314857) c) c
def angleCof (x b : Wd) : Wd := selW (signW x) (subW (kW 1686629713) b) b
def angleB (y x : Wd) : Wd := angleBof y x (angleA y x).c
def angleC (y x : Wd) : Wd := angleCof x (angleB y x)
def angleW (y x : Wd) : Wd := flipW (angleC y x) (signW y)
def anglesY (q0 q1 q2 q3 : Wd) : Wd := moreW (mulqW q0 q1) [mulqW q2 q3]
def anglesX (q0 q1 q2 q3 : Wd) : Wd := lessW (kW 536870912) [mulqW q1 q1, mulqW q2 q2]
def anglesS (q0 q1 q2 q3 : Wd) : Wd := lessW (mulqW q0 q2) [mulqW q3 q1]
def anglesU (q0 q1 q2 q3 : Wd) : Wd := moreW (mulqW q0 q3) [mulqW q1 q2]
def anglesV (q0 q1 q2 q3 : Wd) : Wd := lessW (kW 536870912) [mulqW q2 q2, mulqW q3 q3]
def anglesR (q0 q1 q2 q3 : Wd) : Wd := sqrtW (normW (anglesX q0 q1 q2 q3) [anglesY q0 q1 q2 q3])
def anglesW (q0 q1 q2 q3 : Wd) : T3 := ⟨angleW (anglesY q0 q1 q2 q3) (anglesX q0 q1 q2 q3), angleW (anglesS q0 q1 q2 q3) (anglesR q0 q1 q2 q3), angleW (anglesU q0 q1 q2 q3) (anglesV q0 q1 q2 q3)⟩
/-- All ones, if it stands upright. -/
def lockedW (q0 q1 q2 q3 : Wd) : Wd := subW (sltW (absW (anglesS q0 q1 q2 q3)) (kW 536000000)) (kW 1)
/-- A quaternion of the norm 1. -/
def unitW (x0 x1 x2 x3 : Wd) : Q4 := ⟨scaledW x0 (rootW (normW x0 [x1, x2, x3])).1 (rootW (normW x0 [x1, x2, x3])).2, scaledW x1 (rootW (normW x0 [x1, x2, x3])).1 (rootW (normW x0 [x1, x2, x3])).2, scaledW x2 (rootW (normW x0 [x1, x2, x3])).1 (rootW (normW x0 [x1, x2, x3])).2, scaledW x3 (rootW (normW x0 [x1, x2, x3])).1 (rootW (normW x0 [x1, x2, x3])).2⟩
/-- A word within bounds. -/
def clipW (x : Wd) : Wd := minW (maxW x (kW (-134217728))) (kW 134217728)
/-- A quaternion's part behind a step, ahead of Unit. -/
def partW (q r b ga : Wd) : Wd := addsW q (clipW (subsW r (andW (downW b 8) ga)))
def sensedA (a0 a1 a2 : Wd) : Wd := withinW (squareW a0 a1 a2) (kW 16777216) (kW 150994944)
def sensedM (m0 m1 m2 : Wd) : Wd := withinW (squareW m0 m1 m2) (kW 1000000) (kW 400000000)
def sensedP (q0 q1 q2 q3 a0 a1 a2 : Wd) : Q4 := pullW q0 q1 q2 q3 (pointW a0 a1 a2).a (pointW a0 a1 a2).b (pointW a0 a1 a2).c
def sensedN (q0 q1 q2 q3 m0 m1 m2 : Wd) : Q4 := fieldW q0 q1 q2 q3 (pointW m0 m1 m2).a (pointW m0 m1 m2).b (pointW m0 m1 m2).c
/-- Pull, and field if it is taken. -/
def downOf (P N : Q4) (gm : Wd) : Q4 := ⟨addsW P.a (andW N.a gm), addsW P.b (andW N.b gm), addsW P.c (andW N.c gm), addsW P.d (andW N.d gm)⟩
def evenOf (D : Q4) : Q4 := evenW D.a D.b D.c D.d
def rateOf (q0 q1 q2 q3 g0 g1 g2 : Wd) : Q4 := rateW q0 q1 q2 q3 (upW g0 12) (upW g1 12) (upW g2 12)
def stepOf (q0 q1 q2 q3 : Wd) (R E : Q4) (ga : Wd) : Q4 := unitW (partW q0 R.a E.a ga) (partW q1 R.b E.b ga) (partW q2 R.c E.c ga) (partW q3 R.d E.d ga)
def sensedE (q0 q1 q2 q3 a0 a1 a2 m0 m1 m2 : Wd) : Q4 := evenOf (downOf (sensedP q0 q1 q2 q3 a0 a1 a2) (sensedN q0 q1 q2 q3 m0 m1 m2) (sensedM m0 m1 m2))
def sensedW (q0 q1 q2 q3 g0 g1 g2 a0 a1 a2 m0 m1 m2 : Wd) : Q4 := stepOf q0 q1 q2 q3 (rateOf q0 q1 q2 q3 g0 g1 g2) (sensedE q0 q1 q2 q3 a0 a1 a2 m0 m1 m2) (sensedA a0 a1 a2)
/-- Near to the norm 1. -/
def IsQ (a b c d : Wd) : Prop := (-1342177280 ≤ a.v ∧ a.v ≤ 1342177280) ∧ (-1342177280 ≤ b.v ∧ b.v ≤ 1342177280) ∧ (-1342177280 ≤ c.v ∧ c.v ≤ 1342177280) ∧ (-1342177280 ≤ d.v ∧ d.v ≤ 1342177280) ∧
  a.v * a.v + b.v * b.v + c.v * c.v + d.v * d.v - 1152921504606846976 < 68719476736 ∧ -68719476736 < a.v * a.v + b.v * b.v + c.v * c.v + d.v * d.v - 1152921504606846976
end Go.Proofs.YtkfkoobdmnndcaaGreat
