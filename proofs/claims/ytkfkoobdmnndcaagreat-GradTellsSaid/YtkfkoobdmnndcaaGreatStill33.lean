/- The example of layer 33; GradStill. -/
import Derived.Test.YtkfkoobdmnndcaaGreatStill
import Derived.Test.YtkfkoobdmnndcaaGreatTop1b
namespace Go.Proofs.YtkfkoobdmnndcaaGreat
open Go.RowKit Go.Deep
set_option linter.unusedVariables false
set_option maxRecDepth 100000 in
set_option maxHeartbeats 2000000 in
theorem awake33_calls (w : World) : Calls Tryz.prog 24 #[] w fun e w' => e = .returned (.bool true) ∧ Chg w w' [] := by
  obtain ⟨u1, u0⟩ := awake33_unit
  have hx := awake33_imu
  have hq := eqQ
  go_enter Tryz.func24, Tryz.ntmps24
  go_wp2_with fail
  refine (dunit_calls Z0 (lw 268435456 (by decide)) Z0 Z0 _).mono ?_
  rintro e w1 ⟨rfl, hc⟩
  generalize (evenW Z0 (lw 268435456 (by decide)) Z0 Z0) = u at *
  have HC := hide hc
  clear hc
  go_wp2_with fail
  have KB := hide (Blk.new w1 28 [.int .i32 0, .int .i32 u.b.v, .int .i32 u.c.v, .int .i32 u.d.v])
  refine (imu_calls (lw 1073741824 (by decide)) Z0 Z0 Z0 Z0 Z0 (lw 1073741824 (by decide)) _).mono ?_
  rw [still]
  rintro e w2 ⟨rfl, hc⟩
  have KB2 := KB.out.chg hc (by simp)
  have HC2 := hide (((HC.out.alloc _).trans hc (D := []) (by simp)))
  have c0 := KB2.cell' (i := 0) rfl
  have c1 := KB2.cell' (i := 1) rfl
  clear hc KB HC KB2
  go_wp2_with fail
  refine (imu_calls (lw 1073741824 (by decide)) Z0 Z0 Z0 (lw 1073741824 (by decide)) Z0 Z0 _).mono ?_
  rw [hx]
  generalize pullW (lw 1073741824 (by decide)) Z0 Z0 Z0 (lw 1073741824 (by decide)) Z0 Z0 = v at *
  rintro e w3 ⟨rfl, hc⟩
  have HC3 := hide (HC2.out.trans hc (D := []) (by simp))
  clear hc HC2
  have ix : ∀ w, (Instr.index 28 (.agg #[.int .i32 v.a.v, .int .i32 v.b.v, .int .i32 268435456, .int .i32 v.d.v]) (.int .i64 2)).run Tryz.prog w = .ok (.int .i32 268435456) w := fun _ => by kernel_rfl
  go_wp2
  go_ret
  exact ⟨rfl, HC3.out⟩

end Go.Proofs.YtkfkoobdmnndcaaGreat
