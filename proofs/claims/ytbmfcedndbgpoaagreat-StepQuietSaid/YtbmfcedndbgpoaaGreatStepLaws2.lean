/- StepQuiet. -/
import Derived.Test.YtbmfcedndbgpoaaGreatStepLaws
namespace Go.Proofs.YtbmfcedndbgpoaaGreat
open Go.RowKit Go.Deep
set_option linter.unusedVariables false
set_option maxRecDepth 100000 in
set_option maxHeartbeats 4000000 in
theorem far_no (x y : Wd) (w : World) (h0 : -64 ≤ x.v - y.v) (h1 : x.v - y.v ≤ 64) : Calls Tryz.prog 39 #[.int .i32 x.v, .int .i32 y.v] w fun e w' => e = .returned (.bool false) ∧ w = w' := by
  have ok1 := x.ok
  have ok2 := y.ok
  unfold In32 at ok1 ok2
  have e1 : IntKind.i32.wrap (x.v - y.v) = x.v - y.v := by rw [IntKind.wrap_i32]; omega
  have e2 : IntKind.i32.wrap (y.v - x.v) = y.v - x.v := by rw [IntKind.wrap_i32]; omega
  have k1 : ¬ 64 < x.v - y.v := by omega
  have k2 : ¬ 64 < y.v - x.v := by omega
  go_enter Tryz.func39, Tryz.ntmps39
  go_wp2
  go_ret
  exact ⟨rfl, rfl⟩
set_option maxRecDepth 100000 in
set_option maxHeartbeats 4000000 in
theorem stepQuiet_calls (c s : Wd) (w : World) : Calls Tryz.prog 12 #[.int .i32 c.v, .int .i32 s.v] w fun e w' => e = .returned (.bool true) ∧ Chg w w' [] := by
  have nb := Blk.new w 28 [.int .i32 c.v, .int .i32 0, .int .i32 0, .int .i32 s.v]
  have y0 := nb.cell' (i := 0) rfl
  have y1 := nb.cell' (i := 1) rfl
  have y2 := nb.cell' (i := 2) rfl
  have y3 := nb.cell' (i := 3) rfl
  have HC := hide ((Chg.refl w []).alloc (.cells #[.int .i32 c.v, .int .i32 0, .int .i32 0, .int .i32 s.v] 28))
  clear nb
  by_cases hq : IsQ c Z0 Z0 s
  · obtain ⟨x0, x3, hs, b0, b3⟩ := stay_still c s hq
    have HS := hide hs
    have HQ := hide hq
    clear hs hq
    go_enter Tryz.func12, Tryz.ntmps12
    go_wp2_with fail
    generalize hw5 : w.alloc (.cells #[.int .i32 c.v, .int .i32 0, .int .i32 0, .int .i32 s.v] 28) = w5 at *
    clear hw5
    refine (is_calls c Z0 Z0 s _).mono ?_
    rw [isB_yes HQ.out]
    rintro e w6 ⟨rfl, hc⟩
    have HC6 := hide (HC.out.trans hc (D := []) (by simp))
    replace y0 := hc.cell y0 (by simp)
    replace y1 := hc.cell y1 (by simp)
    replace y2 := hc.cell y2 (by simp)
    replace y3 := hc.cell y3 (by simp)
    clear hc HC
    go_wp2_with fail
    refine (next_calls c Z0 Z0 s Z0 Z0 Z0 Z0 Z0 L0 Z0 Z0 Z0 _).mono ?_
    rw [HS.out, flags_quiet]
    simp only [zv]
    rintro e w7 ⟨rfl, hc⟩
    have HC7 := hide ((HC6.out.trans hc (D := []) (by simp)).alloc (.cells #[.int .i32 x0.v, .int .i32 0, .int .i32 0, .int .i32 x3.v] 28))
    have nb := Blk.new w7 28 [.int .i32 x0.v, .int .i32 0, .int .i32 0, .int .i32 x3.v]
    have z0 := nb.cell' (i := 0) rfl
    have z1 := nb.cell' (i := 1) rfl
    have z2 := nb.cell' (i := 2) rfl
    have z3 := nb.cell' (i := 3) rfl
    clear hc nb HC6 y0 y1 y2 y3
    go_wp2_with fail
    generalize (w7.alloc (.cells #[.int .i32 x0.v, .int .i32 0, .int .i32 0, .int .i32 x3.v] 28)) = w8 at *
    generalize w7.heap.size = ub at *
    refine (far_no x0 c _ b0.1 b0.2).mono ?_
    rintro e w9 ⟨rfl, rfl⟩
    go_wp2_with fail
    refine (far_no x3 s _ b3.1 b3.2).mono ?_
    rintro e w9 ⟨rfl, rfl⟩
    go_wp2_with fail
    refine (awake34_calls _).mono ?_
    rintro e w9 ⟨rfl, hc⟩
    have HC9 := hide (HC7.out.trans hc (D := []) (by simp))
    clear hc
    go_wp2
    go_ret
    exact ⟨rfl, HC9.out⟩
  · have HQ := hide hq
    clear hq
    go_enter Tryz.func12, Tryz.ntmps12
    go_wp2_with fail
    generalize hw5 : w.alloc (.cells #[.int .i32 c.v, .int .i32 0, .int .i32 0, .int .i32 s.v] 28) = w5 at *
    clear hw5
    refine (is_calls c Z0 Z0 s _).mono ?_
    rw [isB_no HQ.out]
    rintro e w6 ⟨rfl, hc⟩
    have HC6 := hide (HC.out.trans hc (D := []) (by simp))
    clear hc HC y0 y1 y2 y3
    go_wp2_with fail
    refine (awake34_calls _).mono ?_
    rintro e w7 ⟨rfl, hc⟩
    have HC7 := hide (HC6.out.trans hc (D := []) (by simp))
    clear hc
    go_wp2
    go_ret
    exact ⟨rfl, HC7.out⟩
end Go.Proofs.YtbmfcedndbgpoaaGreat
