/- The examples of the laws of layers 32 and 33. -/
import Derived.Test.YtkfkoobdmnndcaaGreatTop1
namespace Go.Proofs.YtkfkoobdmnndcaaGreat
open Go.RowKit Go.Deep
set_option linter.unusedVariables false
/-- A word of a literal. -/
def lw (n : Int) (h : In32 n) : Wd := ⟨n, h⟩
theorem awake_unit : (pointW (lw 0 (by decide)) (lw 0 (by decide)) (lw 8192 (by decide))).a.v = 0 ∧ 1073740800 < (pointW (lw 0 (by decide)) (lw 0 (by decide)) (lw 8192 (by decide))).c.v ∧ (pointW (lw 0 (by decide)) (lw 0 (by decide)) (lw 8192 (by decide))).c.v < 1073742848 := by decide +kernel
theorem awake_accel : gateB (squareW (lw 0 (by decide)) (lw 0 (by decide)) (lw 8192 (by decide))) 16777216 150994944 = true := by decide +kernel
theorem awake_accel2 : gateB (squareW (lw 0 (by decide)) (lw 0 (by decide)) (lw 4095 (by decide))) 16777216 150994944 = false := by decide +kernel
theorem awake_mag : gateB (squareW (lw 1000 (by decide)) (lw 0 (by decide)) (lw 0 (by decide))) 1000000 400000000 = true := by decide +kernel
set_option maxRecDepth 100000 in
set_option maxHeartbeats 2000000 in
theorem awake32_calls (w : World) : Calls Tryz.prog 14 #[] w fun e w' => e = .returned (.bool true) ∧ Chg w w' [] := by
  obtain ⟨u0, u1, u2⟩ := awake_unit
  go_enter Tryz.func14, Tryz.ntmps14
  go_wp2_with fail
  refine (gunit_calls (lw 0 (by decide)) (lw 0 (by decide)) (lw 8192 (by decide)) _).mono ?_
  rintro e w1 ⟨rfl, hc⟩
  generalize (pointW (lw 0 (by decide)) (lw 0 (by decide)) (lw 8192 (by decide))) = u at *
  have HC := hide hc
  clear hc
  go_wp2_with fail
  have KB := hide (Blk.new w1 22 [.int .i32 0, .int .i32 u.b.v, .int .i32 u.c.v])
  refine (accel_calls (lw 0 (by decide)) (lw 0 (by decide)) (lw 8192 (by decide)) _).mono ?_
  rw [awake_accel]
  rintro e w2 ⟨rfl, hc⟩
  have KB2 := hide (KB.out.chg hc (by simp))
  have HC2 := hide (((HC.out.alloc _).trans hc (D := []) (by simp)))
  clear hc KB HC
  go_wp2_with fail
  refine (accel_calls (lw 0 (by decide)) (lw 0 (by decide)) (lw 4095 (by decide)) _).mono ?_
  rw [awake_accel2]
  rintro e w3 ⟨rfl, hc⟩
  have KB3 := hide (KB2.out.chg hc (by simp))
  have HC3 := hide (HC2.out.trans hc (D := []) (by simp))
  clear hc KB2 HC2
  go_wp2_with fail
  refine (mag_calls (lw 1000 (by decide)) (lw 0 (by decide)) (lw 0 (by decide)) _).mono ?_
  rw [awake_mag]
  rintro e w4 ⟨rfl, hc⟩
  have KB4 := KB3.out.chg hc (by simp)
  have HC4 := hide (HC3.out.trans hc (D := []) (by simp))
  have c0 := KB4.cell' (i := 0) rfl
  have c2 := KB4.cell' (i := 2) rfl
  clear hc KB3 HC3 KB4
  go_wp2
  go_ret
  exact ⟨rfl, HC4.out⟩
end Go.Proofs.YtkfkoobdmnndcaaGreat
