/- grad.Imu. -/
import Derived.Test.YtkfkoobdmnndcaaGreatTop1
import Derived.Test.YtkfkoobdmnndcaaGreatWorks5
namespace Go.Proofs.YtkfkoobdmnndcaaGreat
open Go.RowKit Go.Deep
set_option linter.unusedVariables false
set_option maxRecDepth 100000 in
set_option maxHeartbeats 4000000 in
theorem imu_calls (q0 q1 q2 q3 x0 x1 x2 : Wd) (w : World) :
    Calls Tryz.prog 18 #[.agg #[.int .i32 q0.v, .int .i32 q1.v, .int .i32 q2.v, .int .i32 q3.v], .agg #[.int .i32 x0.v, .int .i32 x1.v, .int .i32 x2.v]] w fun e w' => e = .returned (.agg #[.int .i32 (pullW q0 q1 q2 q3 x0 x1 x2).a.v, .int .i32 (pullW q0 q1 q2 q3 x0 x1 x2).b.v, .int .i32 (pullW q0 q1 q2 q3 x0 x1 x2).c.v, .int .i32 (pullW q0 q1 q2 q3 x0 x1 x2).d.v]) ∧ Chg w w' [] := by
  have k0 := Blk.new w 28 [.int .i32 q0.v, .int .i32 q1.v, .int .i32 q2.v, .int .i32 q3.v]
  have m0 := ((k0.alloc (.cells #[.int .i32 x0.v, .int .i32 x1.v, .int .i32 x2.v] 22)).alloc (.cells #[.int .i32 0, .int .i32 0, .int .i32 0, .int .i32 0] 28))
  have g0_0 := m0.cell' (i := 0) rfl
  have g0_1 := m0.cell' (i := 1) rfl
  have g0_2 := m0.cell' (i := 2) rfl
  have g0_3 := m0.cell' (i := 3) rfl
  have k1 := Blk.new (w.alloc (.cells #[.int .i32 q0.v, .int .i32 q1.v, .int .i32 q2.v, .int .i32 q3.v] 28)) 22 [.int .i32 x0.v, .int .i32 x1.v, .int .i32 x2.v]
  have m1 := (k1.alloc (.cells #[.int .i32 0, .int .i32 0, .int .i32 0, .int .i32 0] 28))
  simp only [size_alloc] at m1
  have g1_0 := m1.cell' (i := 0) rfl
  have g1_1 := m1.cell' (i := 1) rfl
  have g1_2 := m1.cell' (i := 2) rfl
  have k2 := Blk.new ((w.alloc (.cells #[.int .i32 q0.v, .int .i32 q1.v, .int .i32 q2.v, .int .i32 q3.v] 28)).alloc (.cells #[.int .i32 x0.v, .int .i32 x1.v, .int .i32 x2.v] 22)) 28 [.int .i32 0, .int .i32 0, .int .i32 0, .int .i32 0]
  have m2 := k2
  simp only [size_alloc] at m2
  have g2_0 := m2.cell' (i := 0) rfl
  have g2_1 := m2.cell' (i := 1) rfl
  have g2_2 := m2.cell' (i := 2) rfl
  have g2_3 := m2.cell' (i := 3) rfl
  have HC := hide ((((Chg.refl w []).alloc (.cells #[.int .i32 q0.v, .int .i32 q1.v, .int .i32 q2.v, .int .i32 q3.v] 28)).alloc (.cells #[.int .i32 x0.v, .int .i32 x1.v, .int .i32 x2.v] 22)).alloc (.cells #[.int .i32 0, .int .i32 0, .int .i32 0, .int .i32 0] 28))
  clear k0 k1 k2
  have HM := hide m2
  clear g2_0 g2_1 g2_2 g2_3
  have lb : w.heap.size + 1 + 1 < ((((w.alloc (.cells #[.int .i32 q0.v, .int .i32 q1.v, .int .i32 q2.v, .int .i32 q3.v] 28)).alloc (.cells #[.int .i32 x0.v, .int .i32 x1.v, .int .i32 x2.v] 22)).alloc (.cells #[.int .i32 0, .int .i32 0, .int .i32 0, .int .i32 0] 28))).heap.size := m2.lt
  clear m0 m1 m2
  go_enter Tryz.func18, Tryz.ntmps18
  go_wp2_with fail
  generalize (((w.alloc (.cells #[.int .i32 q0.v, .int .i32 q1.v, .int .i32 q2.v, .int .i32 q3.v] 28)).alloc (.cells #[.int .i32 x0.v, .int .i32 x1.v, .int .i32 x2.v] 22)).alloc (.cells #[.int .i32 0, .int .i32 0, .int .i32 0, .int .i32 0] 28)) = w6 at *
  go_region_with (first | (go_at_call 26; refine (numbers_calls _).mono ?_; rintro e w7 ⟨p, rfl, hPX, hcX, hbX⟩; have g0_0x := hcX.cell (w := w6.drew) g0_0 (by simp); have g0_1x := hcX.cell (w := w6.drew) g0_1 (by simp); have g0_2x := hcX.cell (w := w6.drew) g0_2 (by simp); have g0_3x := hcX.cell (w := w6.drew) g0_3 (by simp); have g1_0x := hcX.cell (w := w6.drew) g1_0 (by simp); have g1_1x := hcX.cell (w := w6.drew) g1_1 (by simp); have g1_2x := hcX.cell (w := w6.drew) g1_2 (by simp); skip) | (go_at_call 43; refine (wpull_calls ⟨p, 0, none⟩ _ _ _ _ _ _ _ _).mono ?_; rintro e w8 ⟨rfl, hc2⟩; have z0 := hc2.cell ((HM.out.drew.chg hcX (by simp)).cell' (i := 0) rfl) (by simp); have f0 := ((HM.out.drew.chg hcX (by simp)).chg hc2 (by simp)).frozen 0; have z1 := hc2.cell ((HM.out.drew.chg hcX (by simp)).cell' (i := 1) rfl) (by simp); have f1 := ((HM.out.drew.chg hcX (by simp)).chg hc2 (by simp)).frozen 1; have z2 := hc2.cell ((HM.out.drew.chg hcX (by simp)).cell' (i := 2) rfl) (by simp); have f2 := ((HM.out.drew.chg hcX (by simp)).chg hc2 (by simp)).frozen 2; have z3 := hc2.cell ((HM.out.drew.chg hcX (by simp)).cell' (i := 3) rfl) (by simp); have f3 := ((HM.out.drew.chg hcX (by simp)).chg hc2 (by simp)).frozen 3; have HB8 := hide ((HM.out.drew.chg hcX (by simp)).chg hc2 (by simp)); have HC8 := hide (hcX.trans hc2 (D := []) (by simp))))
  all_goals
    have hb := ((((HB8.out.set_ 0 (.int .i32 (pullW q0 q1 q2 q3 x0 x1 x2).a.v)).set_ 1 (.int .i32 (pullW q0 q1 q2 q3 x0 x1 x2).b.v)).set_ 2 (.int .i32 (pullW q0 q1 q2 q3 x0 x1 x2).c.v)).set_ 3 (.int .i32 (pullW q0 q1 q2 q3 x0 x1 x2).d.v))
    have qq0 := hb.cell' (i := 0) rfl
    have qq1 := hb.cell' (i := 1) rfl
    have qq2 := hb.cell' (i := 2) rfl
    have qq3 := hb.cell' (i := 3) rfl
    have hcg := hide ((((((HC.out.trans HC8.out.from_drew (D := []) (by simp))).setCell ⟨w.heap.size + 1 + 1, 0, none⟩ (.int .i32 (pullW q0 q1 q2 q3 x0 x1 x2).a.v) (.inr (by dsimp only; omega))).setCell ⟨w.heap.size + 1 + 1, 1, none⟩ (.int .i32 (pullW q0 q1 q2 q3 x0 x1 x2).b.v) (.inr (by dsimp only; omega))).setCell ⟨w.heap.size + 1 + 1, 2, none⟩ (.int .i32 (pullW q0 q1 q2 q3 x0 x1 x2).c.v) (.inr (by dsimp only; omega))).setCell ⟨w.heap.size + 1 + 1, 3, none⟩ (.int .i32 (pullW q0 q1 q2 q3 x0 x1 x2).d.v) (.inr (by dsimp only; omega)))
    go_wp2
    refine bodyPost_ret (v := .agg #[.int .i32 (pullW q0 q1 q2 q3 x0 x1 x2).a.v, .int .i32 (pullW q0 q1 q2 q3 x0 x1 x2).b.v, .int .i32 (pullW q0 q1 q2 q3 x0 x1 x2).c.v, .int .i32 (pullW q0 q1 q2 q3 x0 x1 x2).d.v]) (by simp [results, Tryz.f18, go_sem, qq0, qq1, qq2, qq3]) rfl ⟨rfl, hcg.out⟩
end Go.Proofs.YtkfkoobdmnndcaaGreat
