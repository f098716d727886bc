/- GateUnits. -/
import Derived.Test.YtbmfcedndbgpoaaGateExact
import Derived.Test.YtbmfcedndbgpoaaUnitLaw2
namespace Go.Proofs.Ytbmfcedndbgpoaa
open Go.RowKit Go.Deep
set_option linter.unusedVariables false
/-- What Pointing makes of numbers of 16 bits whose norm is trusted. -/
structure UnitOf (a b c : Wd) (U0 U1 U2 : Int) : Prop where
  r0 : -1073741952 ≤ U0 ∧ U0 ≤ 1073741952
  r1 : -1073741952 ≤ U1 ∧ U1 ≤ 1073741952
  r2 : -1073741952 ≤ U2 ∧ U2 ≤ 1073741952
  s0 : 0 ≤ U0 * a.v ∧ U0 * a.v ≤ 35184376283136
  s1 : 0 ≤ U1 * b.v ∧ U1 * b.v ≤ 35184376283136
  s2 : 0 ≤ U2 * c.v ∧ U2 * c.v ≤ 35184376283136
  q0 : 0 ≤ U0 * U0 ∧ U0 * U0 ≤ 1152921779484753920
  q1 : 0 ≤ U1 * U1 ∧ U1 * U1 ≤ 1152921779484753920
  q2 : 0 ≤ U2 * U2 ∧ U2 * U2 ≤ 1152921779484753920
  n0 : 1152921229728940032 < U0 * U0 + U1 * U1 + U2 * U2
  n1 : U0 * U0 + U1 * U1 + U2 * U2 < 1152921779484753920
theorem unitOf (a b c : Wd) (ha : -32768 ≤ a.v ∧ a.v ≤ 32767) (hb : -32768 ≤ b.v ∧ b.v ≤ 32767) (hc : -32768 ≤ c.v ∧ c.v ≤ 32767)
    (n0 : 1000000 ≤ a.v * a.v + b.v * b.v + c.v * c.v) (n1 : a.v * a.v + b.v * b.v + c.v * c.v ≤ 400000000) : UnitOf a b c (pointW a b c).a.v (pointW a b c).b.v (pointW a b c).c.v := by
  obtain ⟨U0, U1, U2, e0, e1, e2, r0, r1, r2, s0, s1, s2, f0, f1⟩ := point_unit a b c ha hb hc n0 n1
  rw [e0, e1, e2]
  have w0 := sq_nonneg U0
  have w1 := sq_nonneg U1
  have w2 := sq_nonneg U2
  have t : ∀ U x : Int, (-1073741952 ≤ U ∧ U ≤ 1073741952) → (-32768 ≤ x ∧ x ≤ 32767) → U * x ≤ 35184376283136 := fun U x hU hx => by
    have := (ab (A := U) (B := x) (b := 32768) (by omega)).2
    omega
  exact ⟨r0, r1, r2, ⟨s0, t _ _ r0 ha⟩, ⟨s1, t _ _ r1 hb⟩, ⟨s2, t _ _ r2 hc⟩, ⟨w0, by omega⟩, ⟨w1, by omega⟩, ⟨w2, by omega⟩, f0, f1⟩
set_option maxRecDepth 100000 in
set_option maxHeartbeats 4000000 in
theorem gateUnits_calls (a b c : Wd) (w : World) : Calls Try.prog 4 #[.agg #[.int .i32 a.v, .int .i32 b.v, .int .i32 c.v]] w fun e w' => e = .returned (.bool true) ∧ Chg w w' [] := by
  have k0 := Blk.new w 22 [.int .i32 a.v, .int .i32 b.v, .int .i32 c.v]
  have m0 := k0
  have g0_0 := m0.cell' (i := 0) rfl
  have g0_1 := m0.cell' (i := 1) rfl
  have g0_2 := m0.cell' (i := 2) rfl
  have HC := hide ((Chg.refl w []).alloc (.cells #[.int .i32 a.v, .int .i32 b.v, .int .i32 c.v] 22))
  clear k0
  clear m0
  by_cases hs : shortB a b c = true
  · have hd := of_decide_eq_true hs
    obtain ⟨hn, p1, p2, p3, p4, p5, p6⟩ := square_short a b c hd.1 hd.2.1 hd.2.2
    have ga := gateB_spec (squareW a b c) 16777216 150994944 (by decide) (by decide) (by decide) (by decide)
    have gm := gateB_spec (squareW a b c) 1000000 400000000 (by decide) (by decide) (by decide) (by decide)
    rw [hn] at ga gm
    have HU : Hid (gateB (squareW a b c) 16777216 150994944 = true ∨ gateB (squareW a b c) 1000000 400000000 = true → UnitOf a b c (pointW a b c).a.v (pointW a b c).b.v (pointW a b c).c.v) := hide (fun h => by
      rw [ga, gm, decide_eq_true_eq, decide_eq_true_eq] at h
      exact unitOf a b c hd.1 hd.2.1 hd.2.2 (by omega) (by omega))
    clear hn ga gm hd p1 p2 p3 p4 p5 p6
    go_enter Try.func4, Try.ntmps4
    go_wp2_with fail
    refine (short_calls a b c _).mono ?_
    rw [hs]
    rintro e w1 ⟨rfl, hc⟩
    have HC1 := hide (HC.out.trans hc (D := []) (by simp))
    have y0 := hc.cell g0_0 (by simp)
    have y1 := hc.cell g0_1 (by simp)
    have y2 := hc.cell g0_2 (by simp)
    clear hc HC g0_0 g0_1 g0_2 hs
    go_wp2_with fail
    refine (accel_calls a b c _).mono ?_
    by_cases hA : gateB (squareW a b c) 16777216 150994944 = true
    · rw [hA]
      rintro e w2 ⟨rfl, hc⟩
      have HC2 := hide (HC1.out.trans hc (D := []) (by simp))
      have x0 := hc.cell y0 (by simp)
      have x1 := hc.cell y1 (by simp)
      have x2 := hc.cell y2 (by simp)
      have HA := hide hA
      clear hc HC1 y0 y1 y2 hA
      go_wp2_with fail
      refine (gunit_calls a b c _).mono ?_
      rintro e w4 ⟨rfl, hc⟩
      have HC4 := hide (HC2.out.trans hc (D := []) (by simp))
      have y0 := hc.cell x0 (by simp)
      have y1 := hc.cell x1 (by simp)
      have y2 := hc.cell x2 (by simp)
      have HU1 := hide (HU.out (Or.inl HA.out))
      clear HU hc HC2 x0 x1 x2
      generalize (pointW a b c).a = U0 at *
      generalize (pointW a b c).b = U1 at *
      generalize (pointW a b c).c = U2 at *
      have nb := Blk.new w4 22 [.int .i32 U0.v, .int .i32 U1.v, .int .i32 U2.v]
      have ux0 := nb.cell' (i := 0) rfl
      have ux1 := nb.cell' (i := 1) rfl
      have ux2 := nb.cell' (i := 2) rfl
      have ca := hide ((Chg.refl w4 []).alloc (.cells #[.int .i32 U0.v, .int .i32 U1.v, .int .i32 U2.v] 22))
      have x0 := ca.out.cell y0 (by simp)
      have x1 := ca.out.cell y1 (by simp)
      have x2 := ca.out.cell y2 (by simp)
      have HC5 := hide (HC4.out.trans ca.out (D := []) (by simp))
      clear ca nb y0 y1 y2 HC4
      go_wp2_with fail
      generalize w4.heap.size = ub at *
      generalize (w4.alloc (.cells #[.int .i32 U0.v, .int .i32 U1.v, .int .i32 U2.v] 22)) = w5 at *
      go_loopw [4, 5, 6] (fun s i _ wr => ∃ k : Nat, k ≤ 3 ∧ i = .int .i64 k ∧ s = .int .i64 (sqs U0 U1 U2 k) ∧ Hid (Chg w5 wr [])) (fun _ i _ _ => 3 - (intOf i).toNat)
      case atStart => exact ⟨0, by omega, rfl, rfl, Chg.refl _ _⟩
      case round =>
        obtain ⟨k, hk, rfl, rfl, HK⟩ := hrel
        have z0 := HK.out.cell x0 (by simp)
        have z1 := HK.out.cell x1 (by simp)
        have z2 := HK.out.cell x2 (by simp)
        have t0 := HK.out.cell ux0 (by simp)
        have t1 := HK.out.cell ux1 (by simp)
        have t2 := HK.out.cell ux2 (by simp)
        rcases (by omega : k = 0 ∨ k = 1 ∨ k = 2 ∨ k = 3) with rfl | rfl | rfl | rfl
        · obtain ⟨r0, r1, r2, s0, s1, s2, q0, q1, q2, n0, n1⟩ := HU1.out
          have e1 : IntKind.i64.wrap U0.v = U0.v := by rw [IntKind.wrap_i64]; omega
          have e2 : IntKind.i64.wrap a.v = a.v := by have := a.ok; unfold In32 at this; rw [IntKind.wrap_i64]; omega
          have e3 : IntKind.i64.wrap (U0.v * a.v) = U0.v * a.v := by rw [IntKind.wrap_i64]; omega
          have e4 : IntKind.i64.wrap (U0.v * U0.v) = U0.v * U0.v := by rw [IntKind.wrap_i64]; omega
          have e5 : IntKind.i64.wrap (sqs U0 U1 U2 0 + U0.v * U0.v) = sqs U0 U1 U2 1 := by show IntKind.i64.wrap (0 + U0.v * U0.v) = U0.v * U0.v; rw [IntKind.wrap_i64]; omega
          have h1 : ¬ 1073745920 < U0.v := by omega
          have h2 : ¬ U0.v < -1073745920 := by omega
          have h3 : ¬ U0.v * a.v < 0 := by omega
          clear r0 r1 r2 s0 s1 s2 q0 q1 q2 n0 n1
          go_wp2_with fail
          clear e1 e2 e3 e4 e5 h1 h2 h3
          go_roundw
          case rel => exact ⟨1, by omega, by go_num, rfl, HK⟩
          case measure => simp [intOf]
        · obtain ⟨r0, r1, r2, s0, s1, s2, q0, q1, q2, n0, n1⟩ := HU1.out
          have e1 : IntKind.i64.wrap U1.v = U1.v := by rw [IntKind.wrap_i64]; omega
          have e2 : IntKind.i64.wrap b.v = b.v := by have := b.ok; unfold In32 at this; rw [IntKind.wrap_i64]; omega
          have e3 : IntKind.i64.wrap (U1.v * b.v) = U1.v * b.v := by rw [IntKind.wrap_i64]; omega
          have e4 : IntKind.i64.wrap (U1.v * U1.v) = U1.v * U1.v := by rw [IntKind.wrap_i64]; omega
          have e5 : IntKind.i64.wrap (sqs U0 U1 U2 1 + U1.v * U1.v) = sqs U0 U1 U2 2 := by show IntKind.i64.wrap (U0.v * U0.v + U1.v * U1.v) = U0.v * U0.v + U1.v * U1.v; rw [IntKind.wrap_i64]; omega
          have h1 : ¬ 1073745920 < U1.v := by omega
          have h2 : ¬ U1.v < -1073745920 := by omega
          have h3 : ¬ U1.v * b.v < 0 := by omega
          clear r0 r1 r2 s0 s1 s2 q0 q1 q2 n0 n1
          go_wp2_with fail
          clear e1 e2 e3 e4 e5 h1 h2 h3
          go_roundw
          case rel => exact ⟨2, by omega, by go_num, rfl, HK⟩
          case measure => simp [intOf]
        · obtain ⟨r0, r1, r2, s0, s1, s2, q0, q1, q2, n0, n1⟩ := HU1.out
          have e1 : IntKind.i64.wrap U2.v = U2.v := by rw [IntKind.wrap_i64]; omega
          have e2 : IntKind.i64.wrap c.v = c.v := by have := c.ok; unfold In32 at this; rw [IntKind.wrap_i64]; omega
          have e3 : IntKind.i64.wrap (U2.v * c.v) = U2.v * c.v := by rw [IntKind.wrap_i64]; omega
          have e4 : IntKind.i64.wrap (U2.v * U2.v) = U2.v * U2.v := by rw [IntKind.wrap_i64]; omega
          have e5 : IntKind.i64.wrap (sqs U0 U1 U2 2 + U2.v * U2.v) = sqs U0 U1 U2 3 := by show IntKind.i64.wrap (U0.v * U0.v + U1.v * U1.v + U2.v * U2.v) = U0.v * U0.v + U1.v * U1.v + U2.v * U2.v; rw [IntKind.wrap_i64]; omega
          have h1 : ¬ 1073745920 < U2.v := by omega
          have h2 : ¬ U2.v < -1073745920 := by omega
          have h3 : ¬ U2.v * c.v < 0 := by omega
          clear r0 r1 r2 s0 s1 s2 q0 q1 q2 n0 n1
          go_wp2_with fail
          clear e1 e2 e3 e4 e5 h1 h2 h3
          go_roundw
          case rel => exact ⟨3, by omega, by go_num, rfl, HK⟩
          case measure => simp [intOf]
        · obtain ⟨r0, r1, r2, s0, s1, s2, q0, q1, q2, n0, n1⟩ := HU1.out
          have e1 : IntKind.i64.wrap (sqs U0 U1 U2 3 - 1152921504606846976) = sqs U0 U1 U2 3 - 1152921504606846976 := by
            show IntKind.i64.wrap (U0.v * U0.v + U1.v * U1.v + U2.v * U2.v - 1152921504606846976) = U0.v * U0.v + U1.v * U1.v + U2.v * U2.v - 1152921504606846976
            rw [IntKind.wrap_i64]; omega
          have h1 : sqs U0 U1 U2 3 - 1152921504606846976 < 274877906944 := by show U0.v * U0.v + U1.v * U1.v + U2.v * U2.v - 1152921504606846976 < 274877906944; omega
          have h2 : -274877906944 < sqs U0 U1 U2 3 - 1152921504606846976 := by show -274877906944 < U0.v * U0.v + U1.v * U1.v + U2.v * U2.v - 1152921504606846976; omega
          have HCr := hide (HC5.out.trans HK.out (D := []) (by simp))
          clear r0 r1 r2 s0 s1 s2 q0 q1 q2 n0 n1 HK HC5 HU1 z0 z1 z2 t0 t1 t2 x0 x1 x2 ux0 ux1 ux2
          go_wp2_with fail
          refine (awake32_calls _).mono ?_
          rintro e v4 ⟨rfl, hc4⟩
          have HV4 := hide (HCr.out.trans hc4 (D := []) (by simp))
          clear hc4
          go_wp2
          go_ret
          exact ⟨rfl, HV4.out⟩
    · rw [show gateB (squareW a b c) 16777216 150994944 = false by simpa using hA]
      rintro e w2 ⟨rfl, hc⟩
      have HC2 := hide (HC1.out.trans hc (D := []) (by simp))
      have x0 := hc.cell y0 (by simp)
      have x1 := hc.cell y1 (by simp)
      have x2 := hc.cell y2 (by simp)
      clear hc HC1 y0 y1 y2 hA
      go_wp2_with fail
      refine (mag_calls a b c _).mono ?_
      by_cases hM : gateB (squareW a b c) 1000000 400000000 = true
      · rw [hM]
        rintro e w3 ⟨rfl, hc⟩
        have HC3 := hide (HC2.out.trans hc (D := []) (by simp))
        have z0 := hc.cell x0 (by simp)
        have z1 := hc.cell x1 (by simp)
        have z2 := hc.cell x2 (by simp)
        have HM := hide hM
        clear hc HC2 x0 x1 x2 hM
        go_wp2_with fail
        refine (gunit_calls a b c _).mono ?_
        rintro e w4 ⟨rfl, hc⟩
        have HC4 := hide (HC3.out.trans hc (D := []) (by simp))
        have y0 := hc.cell z0 (by simp)
        have y1 := hc.cell z1 (by simp)
        have y2 := hc.cell z2 (by simp)
        have HU1 := hide (HU.out (Or.inr HM.out))
        clear HU hc HC3 z0 z1 z2
        generalize (pointW a b c).a = U0 at *
        generalize (pointW a b c).b = U1 at *
        generalize (pointW a b c).c = U2 at *
        have nb := Blk.new w4 22 [.int .i32 U0.v, .int .i32 U1.v, .int .i32 U2.v]
        have ux0 := nb.cell' (i := 0) rfl
        have ux1 := nb.cell' (i := 1) rfl
        have ux2 := nb.cell' (i := 2) rfl
        have ca := hide ((Chg.refl w4 []).alloc (.cells #[.int .i32 U0.v, .int .i32 U1.v, .int .i32 U2.v] 22))
        have x0 := ca.out.cell y0 (by simp)
        have x1 := ca.out.cell y1 (by simp)
        have x2 := ca.out.cell y2 (by simp)
        have HC5 := hide (HC4.out.trans ca.out (D := []) (by simp))
        clear ca nb y0 y1 y2 HC4
        go_wp2_with fail
        generalize w4.heap.size = ub at *
        generalize (w4.alloc (.cells #[.int .i32 U0.v, .int .i32 U1.v, .int .i32 U2.v] 22)) = w5 at *
        go_loopw [4, 5, 6] (fun s i _ wr => ∃ k : Nat, k ≤ 3 ∧ i = .int .i64 k ∧ s = .int .i64 (sqs U0 U1 U2 k) ∧ Hid (Chg w5 wr [])) (fun _ i _ _ => 3 - (intOf i).toNat)
        case atStart => exact ⟨0, by omega, rfl, rfl, Chg.refl _ _⟩
        case round =>
          obtain ⟨k, hk, rfl, rfl, HK⟩ := hrel
          have z0 := HK.out.cell x0 (by simp)
          have z1 := HK.out.cell x1 (by simp)
          have z2 := HK.out.cell x2 (by simp)
          have t0 := HK.out.cell ux0 (by simp)
          have t1 := HK.out.cell ux1 (by simp)
          have t2 := HK.out.cell ux2 (by simp)
          rcases (by omega : k = 0 ∨ k = 1 ∨ k = 2 ∨ k = 3) with rfl | rfl | rfl | rfl
          · obtain ⟨r0, r1, r2, s0, s1, s2, q0, q1, q2, n0, n1⟩ := HU1.out
            have e1 : IntKind.i64.wrap U0.v = U0.v := by rw [IntKind.wrap_i64]; omega
            have e2 : IntKind.i64.wrap a.v = a.v := by have := a.ok; unfold In32 at this; rw [IntKind.wrap_i64]; omega
            have e3 : IntKind.i64.wrap (U0.v * a.v) = U0.v * a.v := by rw [IntKind.wrap_i64]; omega
            have e4 : IntKind.i64.wrap (U0.v * U0.v) = U0.v * U0.v := by rw [IntKind.wrap_i64]; omega
            have e5 : IntKind.i64.wrap (sqs U0 U1 U2 0 + U0.v * U0.v) = sqs U0 U1 U2 1 := by show IntKind.i64.wrap (0 + U0.v * U0.v) = U0.v * U0.v; rw [IntKind.wrap_i64]; omega
            have h1 : ¬ 1073745920 < U0.v := by omega
            have h2 : ¬ U0.v < -1073745920 := by omega
            have h3 : ¬ U0.v * a.v < 0 := by omega
            clear r0 r1 r2 s0 s1 s2 q0 q1 q2 n0 n1
            go_wp2_with fail
            clear e1 e2 e3 e4 e5 h1 h2 h3
            go_roundw
            case rel => exact ⟨1, by omega, by go_num, rfl, HK⟩
            case measure => simp [intOf]
          · obtain ⟨r0, r1, r2, s0, s1, s2, q0, q1, q2, n0, n1⟩ := HU1.out
            have e1 : IntKind.i64.wrap U1.v = U1.v := by rw [IntKind.wrap_i64]; omega
            have e2 : IntKind.i64.wrap b.v = b.v := by have := b.ok; unfold In32 at this; rw [IntKind.wrap_i64]; omega
            have e3 : IntKind.i64.wrap (U1.v * b.v) = U1.v * b.v := by rw [IntKind.wrap_i64]; omega
            have e4 : IntKind.i64.wrap (U1.v * U1.v) = U1.v * U1.v := by rw [IntKind.wrap_i64]; omega
            have e5 : IntKind.i64.wrap (sqs U0 U1 U2 1 + U1.v * U1.v) = sqs U0 U1 U2 2 := by show IntKind.i64.wrap (U0.v * U0.v + U1.v * U1.v) = U0.v * U0.v + U1.v * U1.v; rw [IntKind.wrap_i64]; omega
            have h1 : ¬ 1073745920 < U1.v := by omega
            have h2 : ¬ U1.v < -1073745920 := by omega
            have h3 : ¬ U1.v * b.v < 0 := by omega
            clear r0 r1 r2 s0 s1 s2 q0 q1 q2 n0 n1
            go_wp2_with fail
            clear e1 e2 e3 e4 e5 h1 h2 h3
            go_roundw
            case rel => exact ⟨2, by omega, by go_num, rfl, HK⟩
            case measure => simp [intOf]
          · obtain ⟨r0, r1, r2, s0, s1, s2, q0, q1, q2, n0, n1⟩ := HU1.out
            have e1 : IntKind.i64.wrap U2.v = U2.v := by rw [IntKind.wrap_i64]; omega
            have e2 : IntKind.i64.wrap c.v = c.v := by have := c.ok; unfold In32 at this; rw [IntKind.wrap_i64]; omega
            have e3 : IntKind.i64.wrap (U2.v * c.v) = U2.v * c.v := by rw [IntKind.wrap_i64]; omega
            have e4 : IntKind.i64.wrap (U2.v * U2.v) = U2.v * U2.v := by rw [IntKind.wrap_i64]; omega
            have e5 : IntKind.i64.wrap (sqs U0 U1 U2 2 + U2.v * U2.v) = sqs U0 U1 U2 3 := by show IntKind.i64.wrap (U0.v * U0.v + U1.v * U1.v + U2.v * U2.v) = U0.v * U0.v + U1.v * U1.v + U2.v * U2.v; rw [IntKind.wrap_i64]; omega
            have h1 : ¬ 1073745920 < U2.v := by omega
            have h2 : ¬ U2.v < -1073745920 := by omega
            have h3 : ¬ U2.v * c.v < 0 := by omega
            clear r0 r1 r2 s0 s1 s2 q0 q1 q2 n0 n1
            go_wp2_with fail
            clear e1 e2 e3 e4 e5 h1 h2 h3
            go_roundw
            case rel => exact ⟨3, by omega, by go_num, rfl, HK⟩
            case measure => simp [intOf]
          · obtain ⟨r0, r1, r2, s0, s1, s2, q0, q1, q2, n0, n1⟩ := HU1.out
            have e1 : IntKind.i64.wrap (sqs U0 U1 U2 3 - 1152921504606846976) = sqs U0 U1 U2 3 - 1152921504606846976 := by
              show IntKind.i64.wrap (U0.v * U0.v + U1.v * U1.v + U2.v * U2.v - 1152921504606846976) = U0.v * U0.v + U1.v * U1.v + U2.v * U2.v - 1152921504606846976
              rw [IntKind.wrap_i64]; omega
            have h1 : sqs U0 U1 U2 3 - 1152921504606846976 < 274877906944 := by show U0.v * U0.v + U1.v * U1.v + U2.v * U2.v - 1152921504606846976 < 274877906944; omega
            have h2 : -274877906944 < sqs U0 U1 U2 3 - 1152921504606846976 := by show -274877906944 < U0.v * U0.v + U1.v * U1.v + U2.v * U2.v - 1152921504606846976; omega
            have HCr := hide (HC5.out.trans HK.out (D := []) (by simp))
            clear r0 r1 r2 s0 s1 s2 q0 q1 q2 n0 n1 HK HC5 HU1 z0 z1 z2 t0 t1 t2 x0 x1 x2 ux0 ux1 ux2
            go_wp2_with fail
            refine (awake32_calls _).mono ?_
            rintro e v4 ⟨rfl, hc4⟩
            have HV4 := hide (HCr.out.trans hc4 (D := []) (by simp))
            clear hc4
            go_wp2
            go_ret
            exact ⟨rfl, HV4.out⟩
      · rw [show gateB (squareW a b c) 1000000 400000000 = false by simpa using hM]
        rintro e w3 ⟨rfl, hc⟩
        have HC3 := hide (HC2.out.trans hc (D := []) (by simp))
        clear hc HC2 x0 x1 x2 hM HU
        go_wp2_with fail
        refine (awake32_calls _).mono ?_
        rintro e v4 ⟨rfl, hc4⟩
        have HV4 := hide (HC3.out.trans hc4 (D := []) (by simp))
        clear hc4
        go_wp2
        go_ret
        exact ⟨rfl, HV4.out⟩
  · have hs : shortB a b c = false := by simpa using hs
    go_enter Try.func4, Try.ntmps4
    go_wp2_with fail
    refine (short_calls a b c _).mono ?_
    rw [hs]
    rintro e w1 ⟨rfl, hc⟩
    have HC1 := hide (HC.out.trans hc (D := []) (by simp))
    clear hc HC g0_0 g0_1 g0_2 hs
    go_wp2_with fail
    refine (awake32_calls _).mono ?_
    rintro e v2 ⟨rfl, hc2⟩
    have HV2 := hide (HC1.out.trans hc2 (D := []) (by simp))
    clear hc2
    go_wp2
    go_ret
    exact ⟨rfl, HV2.out⟩
end Go.Proofs.Ytbmfcedndbgpoaa
