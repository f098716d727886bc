/- The examples of layer 34; StepFar, StepQuiet. -/
import Derived.Test.YtbmfcedndbgpoaaGreatNext
import Derived.Test.YtbmfcedndbgpoaaGreatQuietLaw
import Derived.Test.YtbmfcedndbgpoaaGreatIs
namespace Go.Proofs.YtbmfcedndbgpoaaGreat
open Go.RowKit Go.Deep
set_option linter.unusedVariables false
theorem zv : Z0.v = 0 := rfl
theorem uv : UU0.v = 1073741824 := rfl
theorem flags_quiet : flagsI (sensedA Z0 Z0 L0) (sensedM Z0 Z0 Z0) = 4 := by rw [q_gateA, q_gateM]; decide +kernel
set_option maxRecDepth 100000 in
set_option maxHeartbeats 4000000 in
theorem awake34_calls (w : World) : Calls Tryz.prog 38 #[] w fun e w' => e = .returned (.bool true) ∧ Chg w w' [] := by
  obtain ⟨u1, u2, u3, u4, u5⟩ := awake34_unit
  obtain ⟨x, hx⟩ : ∃ x, x = (unitW UU0 Z0 Z0 Z0).a := ⟨_, rfl⟩
  have hs : sensedW UU0 Z0 Z0 Z0 Z0 Z0 Z0 Z0 Z0 L0 Z0 Z0 Z0 = ⟨x, Z0, Z0, Z0⟩ := by
    rw [sensed_still]
    show Q4.mk _ (unitW UU0 Z0 Z0 Z0).b (unitW UU0 Z0 Z0 Z0).c (unitW UU0 Z0 Z0 Z0).d = _
    rw [u3, u4, u5, hx]
    rfl
  rw [← hx] at u1 u2
  have HS := hide hs
  clear hs hx u3 u4 u5
  go_enter Tryz.func38, Tryz.ntmps38
  go_wp2_with fail
  refine (next_calls UU0 Z0 Z0 Z0 Z0 Z0 Z0 Z0 Z0 L0 Z0 Z0 Z0 _).mono ?_
  rw [HS.out, flags_quiet]
  simp only [zv]
  rintro e w1 ⟨rfl, hc⟩
  have HC := hide hc
  clear hc
  have k1 : decide (1073740800 < x.v) = true := by simpa using u1
  have k2 : decide (x.v < 1073742848) = true := by simpa using u2
  go_wp2
  go_ret
  exact ⟨rfl, HC.out.alloc _⟩
/-- A step, as words. -/
theorem sensed_far (a b c d u0 u1 u2 a0 a1 a2 v0 v1 v2 : Wd) (hq : IsQ a b c d) : ∃ x0 x1 x2 x3 : Wd, sensedW a b c d u0 u1 u2 a0 a1 a2 v0 v1 v2 = ⟨x0, x1, x2, x3⟩ ∧ IsQ x0 x1 x2 x3 ∧ (-537919488 < x0.v - a.v ∧ x0.v - a.v < 537919488) ∧ (-537919488 < x1.v - b.v ∧ x1.v - b.v < 537919488) ∧ (-537919488 < x2.v - c.v ∧ x2.v - c.v < 537919488) ∧ (-537919488 < x3.v - d.v ∧ x3.v - d.v < 537919488) := by
  unfold sensedW stepOf
  generalize rateOf a b c d u0 u1 u2 = R
  generalize sensedE a b c d a0 a1 a2 v0 v1 v2 = E
  generalize sensedA a0 a1 a2 = ga
  obtain ⟨U0, U1, U2, U3, e0, e1, e2, e3, r0, r1, r2, r3, n1, n0, f0, f1, f2, f3⟩ := step_law a b c d R.a R.b R.c R.d E.a E.b E.c E.d ga hq
  generalize unitW (partW a R.a E.a ga) (partW b R.b E.b ga) (partW c R.c E.c ga) (partW d R.d E.d ga) = V at *
  obtain ⟨x0, x1, x2, x3⟩ := V
  dsimp only at e0 e1 e2 e3
  refine ⟨x0, x1, x2, x3, rfl, ?_, ?_⟩
  · unfold IsQ
    rw [e0, e1, e2, e3]
    exact ⟨by omega, by omega, by omega, by omega, n1, n0⟩
  · rw [e0, e1, e2, e3]
    exact ⟨f0, f1, f2, f3⟩
set_option maxRecDepth 100000 in
set_option maxHeartbeats 4000000 in
theorem stepFar_calls (a b c d u0 u1 u2 a0 a1 a2 v0 v1 v2 : Wd) (w : World) : Calls Tryz.prog 11 #[.agg #[.int .i32 a.v, .int .i32 b.v, .int .i32 c.v, .int .i32 d.v], .agg #[.int .i32 u0.v, .int .i32 u1.v, .int .i32 u2.v, .int .i32 a0.v, .int .i32 a1.v, .int .i32 a2.v, .int .i32 v0.v, .int .i32 v1.v, .int .i32 v2.v]] w fun e w' => e = .returned (.bool true) ∧ Chg w w' [] := by
  have k0 := Blk.new w 28 [.int .i32 a.v, .int .i32 b.v, .int .i32 c.v, .int .i32 d.v]
  have m0 := (k0.alloc (.cells #[.int .i32 u0.v, .int .i32 u1.v, .int .i32 u2.v, .int .i32 a0.v, .int .i32 a1.v, .int .i32 a2.v, .int .i32 v0.v, .int .i32 v1.v, .int .i32 v2.v] 41))
  have g0_0 := m0.cell' (i := 0) rfl
  have g0_1 := m0.cell' (i := 1) rfl
  have g0_2 := m0.cell' (i := 2) rfl
  have g0_3 := m0.cell' (i := 3) rfl
  have k1 := Blk.new (w.alloc (.cells #[.int .i32 a.v, .int .i32 b.v, .int .i32 c.v, .int .i32 d.v] 28)) 41 [.int .i32 u0.v, .int .i32 u1.v, .int .i32 u2.v, .int .i32 a0.v, .int .i32 a1.v, .int .i32 a2.v, .int .i32 v0.v, .int .i32 v1.v, .int .i32 v2.v]
  have m1 := k1
  simp only [size_alloc] at m1
  have g1_0 := m1.cell' (i := 0) rfl
  have g1_1 := m1.cell' (i := 1) rfl
  have g1_2 := m1.cell' (i := 2) rfl
  have g1_3 := m1.cell' (i := 3) rfl
  have g1_4 := m1.cell' (i := 4) rfl
  have g1_5 := m1.cell' (i := 5) rfl
  have g1_6 := m1.cell' (i := 6) rfl
  have g1_7 := m1.cell' (i := 7) rfl
  have g1_8 := m1.cell' (i := 8) rfl
  have HC := hide (((Chg.refl w []).alloc (.cells #[.int .i32 a.v, .int .i32 b.v, .int .i32 c.v, .int .i32 d.v] 28)).alloc (.cells #[.int .i32 u0.v, .int .i32 u1.v, .int .i32 u2.v, .int .i32 a0.v, .int .i32 a1.v, .int .i32 a2.v, .int .i32 v0.v, .int .i32 v1.v, .int .i32 v2.v] 41))
  clear k0 k1
  clear m0 m1
  by_cases hq : IsQ a b c d
  · obtain ⟨x0, x1, x2, x3, hs, _, d0, d1, d2, d3⟩ := sensed_far a b c d u0 u1 u2 a0 a1 a2 v0 v1 v2 hq
    have HS := hide hs
    have HQ := hide hq
    clear hs hq
    go_enter Tryz.func11, Tryz.ntmps11
    go_wp2_with fail
    generalize hw5 : ((w.alloc (.cells #[.int .i32 a.v, .int .i32 b.v, .int .i32 c.v, .int .i32 d.v] 28)).alloc (.cells #[.int .i32 u0.v, .int .i32 u1.v, .int .i32 u2.v, .int .i32 a0.v, .int .i32 a1.v, .int .i32 a2.v, .int .i32 v0.v, .int .i32 v1.v, .int .i32 v2.v] 41)) = w5 at *
    clear hw5
    refine (is_calls a b c d _).mono ?_
    rw [isB_yes HQ.out]
    rintro e w6 ⟨rfl, hc⟩
    have HC6 := hide (HC.out.trans hc (D := []) (by simp))
    replace g0_0 := hc.cell g0_0 (by simp)
    replace g0_1 := hc.cell g0_1 (by simp)
    replace g0_2 := hc.cell g0_2 (by simp)
    replace g0_3 := hc.cell g0_3 (by simp)
    replace g1_0 := hc.cell g1_0 (by simp)
    replace g1_1 := hc.cell g1_1 (by simp)
    replace g1_2 := hc.cell g1_2 (by simp)
    replace g1_3 := hc.cell g1_3 (by simp)
    replace g1_4 := hc.cell g1_4 (by simp)
    replace g1_5 := hc.cell g1_5 (by simp)
    replace g1_6 := hc.cell g1_6 (by simp)
    replace g1_7 := hc.cell g1_7 (by simp)
    replace g1_8 := hc.cell g1_8 (by simp)
    clear hc HC
    go_wp2_with fail
    refine (next_calls a b c d u0 u1 u2 a0 a1 a2 v0 v1 v2 _).mono ?_
    rw [HS.out]
    rintro e w7 ⟨rfl, hc⟩
    have HC7 := hide (HC6.out.trans hc (D := []) (by simp))
    replace g0_0 := hc.cell g0_0 (by simp)
    replace g0_1 := hc.cell g0_1 (by simp)
    replace g0_2 := hc.cell g0_2 (by simp)
    replace g0_3 := hc.cell g0_3 (by simp)
    clear hc HC6 g1_0 g1_1 g1_2 g1_3 g1_4 g1_5 g1_6 g1_7 g1_8
    have nb := Blk.new w7 28 [.int .i32 x0.v, .int .i32 x1.v, .int .i32 x2.v, .int .i32 x3.v]
    have y0 := nb.cell' (i := 0) rfl
    have z0 := ((Chg.refl w7 []).alloc (.cells #[.int .i32 x0.v, .int .i32 x1.v, .int .i32 x2.v, .int .i32 x3.v] 28)).cell g0_0 (by simp)
    have y1 := nb.cell' (i := 1) rfl
    have z1 := ((Chg.refl w7 []).alloc (.cells #[.int .i32 x0.v, .int .i32 x1.v, .int .i32 x2.v, .int .i32 x3.v] 28)).cell g0_1 (by simp)
    have y2 := nb.cell' (i := 2) rfl
    have z2 := ((Chg.refl w7 []).alloc (.cells #[.int .i32 x0.v, .int .i32 x1.v, .int .i32 x2.v, .int .i32 x3.v] 28)).cell g0_2 (by simp)
    have y3 := nb.cell' (i := 3) rfl
    have z3 := ((Chg.refl w7 []).alloc (.cells #[.int .i32 x0.v, .int .i32 x1.v, .int .i32 x2.v, .int .i32 x3.v] 28)).cell g0_3 (by simp)
    have HC8 := hide (HC7.out.alloc (.cells #[.int .i32 x0.v, .int .i32 x1.v, .int .i32 x2.v, .int .i32 x3.v] 28))
    clear nb g0_0 g0_1 g0_2 g0_3 HC7
    go_wp2_with fail
    generalize (w7.alloc (.cells #[.int .i32 x0.v, .int .i32 x1.v, .int .i32 x2.v, .int .i32 x3.v] 28)) = w8 at *
    generalize w7.heap.size = ub at *
    go_loopw [7] (fun i wr => ∃ k : Nat, k ≤ 4 ∧ i = .int .i64 k ∧ Hid (Chg w8 wr [])) (fun i _ => 4 - (intOf i).toNat)
    case atStart => exact ⟨0, by omega, rfl, Chg.refl _ _⟩
    case round =>
      obtain ⟨k, hk, rfl, HK⟩ := hrel
      replace y0 := HK.out.cell y0 (by simp)
      replace z0 := HK.out.cell z0 (by simp)
      replace y1 := HK.out.cell y1 (by simp)
      replace z1 := HK.out.cell z1 (by simp)
      replace y2 := HK.out.cell y2 (by simp)
      replace z2 := HK.out.cell z2 (by simp)
      replace y3 := HK.out.cell y3 (by simp)
      replace z3 := HK.out.cell z3 (by simp)
      rcases (by omega : k = 0 ∨ k = 1 ∨ k = 2 ∨ k = 3 ∨ k = 4) with rfl | rfl | rfl | rfl | rfl
      · have ok1 := x0.ok
        have ok2 := a.ok
        unfold In32 at ok1 ok2
        have e1 : IntKind.i64.wrap x0.v = x0.v := by rw [IntKind.wrap_i64]; omega
        have e2 : IntKind.i64.wrap a.v = a.v := by rw [IntKind.wrap_i64]; omega
        have e3 : IntKind.i64.wrap (x0.v - a.v) = x0.v - a.v := by rw [IntKind.wrap_i64]; omega
        have h3 : ¬ 537919488 < x0.v - a.v := by omega
        have h4 : ¬ x0.v - a.v < -537919488 := by omega
        clear ok1 ok2 d0 d1 d2 d3
        go_wp2_with fail
        go_quiet (fail)
        clear e1 e2 e3
        go_wp2
        go_roundw
        case rel => exact ⟨1, by omega, by go_num, HK.out.drewN _⟩
        case measure => simp [intOf]
      · have ok1 := x1.ok
        have ok2 := b.ok
        unfold In32 at ok1 ok2
        have e1 : IntKind.i64.wrap x1.v = x1.v := by rw [IntKind.wrap_i64]; omega
        have e2 : IntKind.i64.wrap b.v = b.v := by rw [IntKind.wrap_i64]; omega
        have e3 : IntKind.i64.wrap (x1.v - b.v) = x1.v - b.v := by rw [IntKind.wrap_i64]; omega
        have h3 : ¬ 537919488 < x1.v - b.v := by omega
        have h4 : ¬ x1.v - b.v < -537919488 := by omega
        clear ok1 ok2 d0 d1 d2 d3
        go_wp2_with fail
        go_quiet (fail)
        clear e1 e2 e3
        go_wp2
        go_roundw
        case rel => exact ⟨2, by omega, by go_num, HK.out.drewN _⟩
        case measure => simp [intOf]
      · have ok1 := x2.ok
        have ok2 := c.ok
        unfold In32 at ok1 ok2
        have e1 : IntKind.i64.wrap x2.v = x2.v := by rw [IntKind.wrap_i64]; omega
        have e2 : IntKind.i64.wrap c.v = c.v := by rw [IntKind.wrap_i64]; omega
        have e3 : IntKind.i64.wrap (x2.v - c.v) = x2.v - c.v := by rw [IntKind.wrap_i64]; omega
        have h3 : ¬ 537919488 < x2.v - c.v := by omega
        have h4 : ¬ x2.v - c.v < -537919488 := by omega
        clear ok1 ok2 d0 d1 d2 d3
        go_wp2_with fail
        go_quiet (fail)
        clear e1 e2 e3
        go_wp2
        go_roundw
        case rel => exact ⟨3, by omega, by go_num, HK.out.drewN _⟩
        case measure => simp [intOf]
      · have ok1 := x3.ok
        have ok2 := d.ok
        unfold In32 at ok1 ok2
        have e1 : IntKind.i64.wrap x3.v = x3.v := by rw [IntKind.wrap_i64]; omega
        have e2 : IntKind.i64.wrap d.v = d.v := by rw [IntKind.wrap_i64]; omega
        have e3 : IntKind.i64.wrap (x3.v - d.v) = x3.v - d.v := by rw [IntKind.wrap_i64]; omega
        have h3 : ¬ 537919488 < x3.v - d.v := by omega
        have h4 : ¬ x3.v - d.v < -537919488 := by omega
        clear ok1 ok2 d0 d1 d2 d3
        go_wp2_with fail
        go_quiet (fail)
        clear e1 e2 e3
        go_wp2
        go_roundw
        case rel => exact ⟨4, by omega, by go_num, HK.out.drewN _⟩
        case measure => simp [intOf]
      · go_wp2_with fail
        refine (awake34_calls _).mono ?_
        rintro e w9 ⟨rfl, hc⟩
        have HC9 := hide ((HC8.out.trans HK.out (D := []) (by simp)).trans hc (D := []) (by simp))
        clear hc
        go_wp2
        go_ret
        exact ⟨rfl, HC9.out⟩
  · have HQ := hide hq
    clear hq
    go_enter Tryz.func11, Tryz.ntmps11
    go_wp2_with fail
    generalize hw5 : ((w.alloc (.cells #[.int .i32 a.v, .int .i32 b.v, .int .i32 c.v, .int .i32 d.v] 28)).alloc (.cells #[.int .i32 u0.v, .int .i32 u1.v, .int .i32 u2.v, .int .i32 a0.v, .int .i32 a1.v, .int .i32 a2.v, .int .i32 v0.v, .int .i32 v1.v, .int .i32 v2.v] 41)) = w5 at *
    clear hw5
    refine (is_calls a b c d _).mono ?_
    rw [isB_no HQ.out]
    rintro e w6 ⟨rfl, hc⟩
    have HC6 := hide (HC.out.trans hc (D := []) (by simp))
    clear hc HC g0_0 g0_1 g0_2 g0_3 g1_0 g1_1 g1_2 g1_3 g1_4 g1_5 g1_6 g1_7 g1_8
    go_wp2_with fail
    refine (awake34_calls _).mono ?_
    rintro e w7 ⟨rfl, hc⟩
    have HC7 := hide (HC6.out.trans hc (D := []) (by simp))
    clear hc
    go_wp2
    go_ret
    exact ⟨rfl, HC7.out⟩
end Go.Proofs.YtbmfcedndbgpoaaGreat
