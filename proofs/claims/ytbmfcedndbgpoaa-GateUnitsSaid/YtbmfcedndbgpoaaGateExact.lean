/- GateExact. -/
import Derived.Test.YtbmfcedndbgpoaaGateLaw
namespace Go.Proofs.Ytbmfcedndbgpoaa
open Go.RowKit Go.Deep
set_option linter.unusedVariables false
/-- Each of 16 bits. -/
def shortB (a b c : Wd) : Bool := decide ((-32768 ≤ a.v ∧ a.v ≤ 32767) ∧ (-32768 ≤ b.v ∧ b.v ≤ 32767) ∧ (-32768 ≤ c.v ∧ c.v ≤ 32767))
set_option maxRecDepth 100000 in
set_option maxHeartbeats 2000000 in
theorem short_calls (a b c : Wd) (w : World) : Calls Try.prog 10 #[.agg #[.int .i32 a.v, .int .i32 b.v, .int .i32 c.v]] w fun e w' => e = .returned (.bool (shortB a b c)) ∧ Chg w w' [] := by
  have k0 := Blk.new w 22 [.int .i32 a.v, .int .i32 b.v, .int .i32 c.v]
  have m0 := k0
  have g0_0 := m0.cell' (i := 0) rfl
  have g0_1 := m0.cell' (i := 1) rfl
  have g0_2 := m0.cell' (i := 2) rfl
  have HC := hide ((Chg.refl w []).alloc (.cells #[.int .i32 a.v, .int .i32 b.v, .int .i32 c.v] 22))
  clear k0
  clear m0
  go_enter Try.func10, Try.ntmps10
  go_wp2_with fail
  go_loop [3] (fun i => ∃ k : Nat, k ≤ 3 ∧ i = .int .i64 k ∧ (1 ≤ k → -32768 ≤ a.v ∧ a.v ≤ 32767) ∧ (2 ≤ k → -32768 ≤ b.v ∧ b.v ≤ 32767) ∧ (3 ≤ k → -32768 ≤ c.v ∧ c.v ≤ 32767)) (fun i => 3 - (intOf i).toNat)
  case atStart => exact ⟨0, by omega, rfl, by omega, by omega, by omega⟩
  case round =>
    obtain ⟨k, hk, rfl, r1, r2, r3⟩ := hrel
    have R1 := hide r1
    have R2 := hide r2
    have R3 := hide r3
    clear r1 r2 r3
    rcases (by omega : k = 0 ∨ k = 1 ∨ k = 2 ∨ k = 3) with rfl | rfl | rfl | rfl
    · by_cases h1 : -32768 ≤ a.v
      · by_cases h2 : a.v ≤ 32767
        · have h3 : ¬ a.v < -32768 := by omega
          have h4 : ¬ 32767 < a.v := by omega
          go_wp2
          go_round
          case rel => exact ⟨1, by omega, by go_num, fun _ => ⟨h1, h2⟩, by omega, by omega⟩
          case measure => simp [intOf]
        · have h4 : 32767 < a.v := by omega
          have h3 : ¬ a.v < -32768 := by omega
          have hb : shortB a b c = false := by unfold shortB; exact decide_eq_false (by omega)
          have HB := hide hb
          clear hb h1 h2
          go_wp2
          go_ret
          exact ⟨ret_bool HB.out.symm, HC.out⟩
      · have h3 : a.v < -32768 := by omega
        have hb : shortB a b c = false := by unfold shortB; exact decide_eq_false (by omega)
        have HB := hide hb
        clear hb h1
        go_wp2
        go_ret
        exact ⟨ret_bool HB.out.symm, HC.out⟩
    · by_cases h1 : -32768 ≤ b.v
      · by_cases h2 : b.v ≤ 32767
        · have h3 : ¬ b.v < -32768 := by omega
          have h4 : ¬ 32767 < b.v := by omega
          go_wp2
          go_round
          case rel => exact ⟨2, by omega, by go_num, fun _ => R1.out (by omega), fun _ => ⟨h1, h2⟩, by omega⟩
          case measure => simp [intOf]
        · have h4 : 32767 < b.v := by omega
          have h3 : ¬ b.v < -32768 := by omega
          have hb : shortB a b c = false := by unfold shortB; exact decide_eq_false (by omega)
          have HB := hide hb
          clear hb h1 h2
          go_wp2
          go_ret
          exact ⟨ret_bool HB.out.symm, HC.out⟩
      · have h3 : b.v < -32768 := by omega
        have hb : shortB a b c = false := by unfold shortB; exact decide_eq_false (by omega)
        have HB := hide hb
        clear hb h1
        go_wp2
        go_ret
        exact ⟨ret_bool HB.out.symm, HC.out⟩
    · by_cases h1 : -32768 ≤ c.v
      · by_cases h2 : c.v ≤ 32767
        · have h3 : ¬ c.v < -32768 := by omega
          have h4 : ¬ 32767 < c.v := by omega
          go_wp2
          go_round
          case rel => exact ⟨3, by omega, by go_num, fun _ => R1.out (by omega), fun _ => R2.out (by omega), fun _ => ⟨h1, h2⟩⟩
          case measure => simp [intOf]
        · have h4 : 32767 < c.v := by omega
          have h3 : ¬ c.v < -32768 := by omega
          have hb : shortB a b c = false := by unfold shortB; exact decide_eq_false (by omega)
          have HB := hide hb
          clear hb h1 h2
          go_wp2
          go_ret
          exact ⟨ret_bool HB.out.symm, HC.out⟩
      · have h3 : c.v < -32768 := by omega
        have hb : shortB a b c = false := by unfold shortB; exact decide_eq_false (by omega)
        have HB := hide hb
        clear hb h1
        go_wp2
        go_ret
        exact ⟨ret_bool HB.out.symm, HC.out⟩
    · have hb : shortB a b c = true := by unfold shortB; exact decide_eq_true ⟨R1.out (by omega), R2.out (by omega), R3.out (by omega)⟩
      have HB := hide hb
      clear hb
      go_wp2
      go_ret
      exact ⟨ret_bool HB.out.symm, HC.out⟩
/-- The squares' sum, place by place. -/
def sqs (a b c : Wd) : Nat → Int
  | 0 => 0
  | 1 => a.v * a.v
  | 2 => a.v * a.v + b.v * b.v
  | _ => a.v * a.v + b.v * b.v + c.v * c.v
set_option maxRecDepth 100000 in
set_option maxHeartbeats 4000000 in
theorem gateExact_calls (a b c : Wd) (w : World) : Calls Try.prog 3 #[.agg #[.int .i32 a.v, .int .i32 b.v, .int .i32 c.v]] w fun e w' => e = .returned (.bool true) ∧ Chg w w' [] := by
  have k0 := Blk.new w 22 [.int .i32 a.v, .int .i32 b.v, .int .i32 c.v]
  have m0 := k0
  have g0_0 := m0.cell' (i := 0) rfl
  have g0_1 := m0.cell' (i := 1) rfl
  have g0_2 := m0.cell' (i := 2) rfl
  have HC := hide ((Chg.refl w []).alloc (.cells #[.int .i32 a.v, .int .i32 b.v, .int .i32 c.v] 22))
  clear k0
  clear m0
  by_cases hs : shortB a b c = true
  · have hd := of_decide_eq_true hs
    obtain ⟨hn, p1, p2, p3, p4, p5, p6⟩ := square_short a b c hd.1 hd.2.1 hd.2.2
    have ga := gateB_spec (squareW a b c) 16777216 150994944 (by decide) (by decide) (by decide) (by decide)
    have gm := gateB_spec (squareW a b c) 1000000 400000000 (by decide) (by decide) (by decide) (by decide)
    rw [hn] at ga gm
    have HN := hide hn
    have GA := hide ga
    have GM := hide gm
    clear hn ga gm hd
    go_enter Try.func3, Try.ntmps3
    go_wp2_with fail
    refine (short_calls a b c _).mono ?_
    rw [hs]
    rintro e w1 ⟨rfl, hc⟩
    have HC1 := hide (HC.out.trans hc (D := []) (by simp))
    have y0 := hc.cell g0_0 (by simp)
    have y1 := hc.cell g0_1 (by simp)
    have y2 := hc.cell g0_2 (by simp)
    clear hc HC g0_0 g0_1 g0_2 hs
    go_wp2_with fail
    go_loopw [3, 4] (fun s i wr => ∃ k : Nat, k ≤ 3 ∧ i = .int .i64 k ∧ s = .int .i64 (sqs a b c k) ∧ Hid (Chg w1 wr [])) (fun _ i _ => 3 - (intOf i).toNat)
    case atStart => exact ⟨0, by omega, rfl, rfl, Chg.refl _ _⟩
    case round =>
      obtain ⟨k, hk, rfl, rfl, HK⟩ := hrel
      have z0 := HK.out.cell y0 (by simp)
      have z1 := HK.out.cell y1 (by simp)
      have z2 := HK.out.cell y2 (by simp)
      rcases (by omega : k = 0 ∨ k = 1 ∨ k = 2 ∨ k = 3) with rfl | rfl | rfl | rfl
      · have e1 : IntKind.i64.wrap (a.v * a.v) = a.v * a.v := by rw [IntKind.wrap_i64]; omega
        have e2 : IntKind.i64.wrap (sqs a b c 0 + a.v * a.v) = sqs a b c 1 := by show IntKind.i64.wrap (0 + a.v * a.v) = a.v * a.v; rw [IntKind.wrap_i64]; omega
        have e3 : IntKind.i64.wrap a.v = a.v := by have := a.ok; unfold In32 at this; rw [IntKind.wrap_i64]; omega
        have HK2 := hide HK.out.drew
        clear p1 p2 p3 p4 p5 p6
        go_wp2_with fail
        generalize hww : wr = w8 at *
        go_region_held3 (fun w' => Chg w8 w' [] ∧ w'.cell? ⟨w.heap.size, 0, none⟩ = some (.int .i32 a.v)) (first | exact ⟨(Chg.refl w8 []).drew, z0⟩) (fail)
        clear e1 e2 e3
        go_wp2
        go_roundw
        case rel => exact ⟨1, by omega, by go_num, rfl, HK2⟩
        case measure => simp [intOf]
      · have e1 : IntKind.i64.wrap (b.v * b.v) = b.v * b.v := by rw [IntKind.wrap_i64]; omega
        have e2 : IntKind.i64.wrap (sqs a b c 1 + b.v * b.v) = sqs a b c 2 := by show IntKind.i64.wrap (a.v * a.v + b.v * b.v) = a.v * a.v + b.v * b.v; rw [IntKind.wrap_i64]; omega
        have e3 : IntKind.i64.wrap b.v = b.v := by have := b.ok; unfold In32 at this; rw [IntKind.wrap_i64]; omega
        have HK2 := hide HK.out.drew
        clear p1 p2 p3 p4 p5 p6
        go_wp2_with fail
        generalize hww : wr = w8 at *
        go_region_held3 (fun w' => Chg w8 w' [] ∧ w'.cell? ⟨w.heap.size, 1, none⟩ = some (.int .i32 b.v)) (first | exact ⟨(Chg.refl w8 []).drew, z1⟩) (fail)
        clear e1 e2 e3
        go_wp2
        go_roundw
        case rel => exact ⟨2, by omega, by go_num, rfl, HK2⟩
        case measure => simp [intOf]
      · have e1 : IntKind.i64.wrap (c.v * c.v) = c.v * c.v := by rw [IntKind.wrap_i64]; omega
        have e2 : IntKind.i64.wrap (sqs a b c 2 + c.v * c.v) = sqs a b c 3 := by show IntKind.i64.wrap (a.v * a.v + b.v * b.v + c.v * c.v) = a.v * a.v + b.v * b.v + c.v * c.v; rw [IntKind.wrap_i64]; omega
        have e3 : IntKind.i64.wrap c.v = c.v := by have := c.ok; unfold In32 at this; rw [IntKind.wrap_i64]; omega
        have HK2 := hide HK.out.drew
        clear p1 p2 p3 p4 p5 p6
        go_wp2_with fail
        generalize hww : wr = w8 at *
        go_region_held3 (fun w' => Chg w8 w' [] ∧ w'.cell? ⟨w.heap.size, 2, none⟩ = some (.int .i32 c.v)) (first | exact ⟨(Chg.refl w8 []).drew, z2⟩) (fail)
        clear e1 e2 e3
        go_wp2
        go_roundw
        case rel => exact ⟨3, by omega, by go_num, rfl, HK2⟩
        case measure => simp [intOf]
      · have hn : (squareW a b c).v % 4294967296 = sqs a b c 3 := HN.out
        have ga : gateB (squareW a b c) 16777216 150994944 = decide (16777216 ≤ sqs a b c 3 ∧ sqs a b c 3 ≤ 150994944) := GA.out
        have gm : gateB (squareW a b c) 1000000 400000000 = decide (1000000 ≤ sqs a b c 3 ∧ sqs a b c 3 ≤ 400000000) := GM.out
        have hs0 : 0 ≤ sqs a b c 3 := by show 0 ≤ a.v * a.v + b.v * b.v + c.v * c.v; omega
        generalize sqs a b c 3 = s at *
        clear p1 p2 p3 p4 p5 p6 HN GA GM y0 y1 y2
        have HN := hide hn
        clear hn
        have HCr := hide (HC1.out.trans HK.out (D := []) (by simp))
        clear HK HC1
        rcases (by omega : s < 1000000 ∨ (1000000 ≤ s ∧ s < 16777216) ∨ (16777216 ≤ s ∧ s ≤ 150994944) ∨ (150994944 < s ∧ s ≤ 400000000) ∨ 400000000 < s) with h | h | h | h | h
        · have GA : Hid (gateB (squareW a b c) 16777216 150994944 = false) := hide (by rw [ga]; exact decide_eq_false (by omega))
          have GM : Hid (gateB (squareW a b c) 1000000 400000000 = false) := hide (by rw [gm]; exact decide_eq_false (by omega))
          have d0 : decide (16777216 ≤ s) = false := decide_eq_false (by omega)
          have d1 : decide (s ≤ 150994944) = true := decide_eq_true (by omega)
          have d2 : decide (1000000 ≤ s) = false := decide_eq_false (by omega)
          have d3 : decide (s ≤ 400000000) = true := decide_eq_true (by omega)
          clear ga gm h hs0
          go_wp2_with fail
          refine (gnorm_calls a b c _).mono ?_
          rintro e v1 ⟨rfl, hc1⟩
          have hz0 := hc1.cell z0 (by simp)
          have hz1 := hc1.cell z1 (by simp)
          have hz2 := hc1.cell z2 (by simp)
          have HV1 := hide (HCr.out.trans hc1 (D := []) (by simp))
          have hn := HN.out
          clear hc1 z0 z1 z2
          go_wp2_with fail
          refine (accel_calls a b c _).mono ?_
          rw [GA.out]
          rintro e v2 ⟨rfl, hc2⟩
          have iz0 := hc2.cell hz0 (by simp)
          have iz1 := hc2.cell hz1 (by simp)
          have iz2 := hc2.cell hz2 (by simp)
          have HV2 := hide (HV1.out.trans hc2 (D := []) (by simp))
          clear hc2 hz0 hz1 hz2 hn
          go_wp2_with fail
          refine (mag_calls a b c _).mono ?_
          rw [GM.out]
          rintro e v3 ⟨rfl, hc3⟩
          have HV3 := hide (HV2.out.trans hc3 (D := []) (by simp))
          clear hc3 iz0 iz1 iz2
          go_wp2_with fail
          refine (awake32_calls _).mono ?_
          rintro e v4 ⟨rfl, hc4⟩
          have HV4 := hide (HV3.out.trans hc4 (D := []) (by simp))
          clear hc4
          go_wp2
          go_ret
          exact ⟨rfl, HV4.out⟩
        · have GA : Hid (gateB (squareW a b c) 16777216 150994944 = false) := hide (by rw [ga]; exact decide_eq_false (by omega))
          have GM : Hid (gateB (squareW a b c) 1000000 400000000 = true) := hide (by rw [gm]; exact decide_eq_true (by omega))
          have d0 : decide (16777216 ≤ s) = false := decide_eq_false (by omega)
          have d1 : decide (s ≤ 150994944) = true := decide_eq_true (by omega)
          have d2 : decide (1000000 ≤ s) = true := decide_eq_true (by omega)
          have d3 : decide (s ≤ 400000000) = true := decide_eq_true (by omega)
          clear ga gm h hs0
          go_wp2_with fail
          refine (gnorm_calls a b c _).mono ?_
          rintro e v1 ⟨rfl, hc1⟩
          have hz0 := hc1.cell z0 (by simp)
          have hz1 := hc1.cell z1 (by simp)
          have hz2 := hc1.cell z2 (by simp)
          have HV1 := hide (HCr.out.trans hc1 (D := []) (by simp))
          have hn := HN.out
          clear hc1 z0 z1 z2
          go_wp2_with fail
          refine (accel_calls a b c _).mono ?_
          rw [GA.out]
          rintro e v2 ⟨rfl, hc2⟩
          have iz0 := hc2.cell hz0 (by simp)
          have iz1 := hc2.cell hz1 (by simp)
          have iz2 := hc2.cell hz2 (by simp)
          have HV2 := hide (HV1.out.trans hc2 (D := []) (by simp))
          clear hc2 hz0 hz1 hz2 hn
          go_wp2_with fail
          refine (mag_calls a b c _).mono ?_
          rw [GM.out]
          rintro e v3 ⟨rfl, hc3⟩
          have HV3 := hide (HV2.out.trans hc3 (D := []) (by simp))
          clear hc3 iz0 iz1 iz2
          go_wp2_with fail
          refine (awake32_calls _).mono ?_
          rintro e v4 ⟨rfl, hc4⟩
          have HV4 := hide (HV3.out.trans hc4 (D := []) (by simp))
          clear hc4
          go_wp2
          go_ret
          exact ⟨rfl, HV4.out⟩
        · have GA : Hid (gateB (squareW a b c) 16777216 150994944 = true) := hide (by rw [ga]; exact decide_eq_true (by omega))
          have GM : Hid (gateB (squareW a b c) 1000000 400000000 = true) := hide (by rw [gm]; exact decide_eq_true (by omega))
          have d0 : decide (16777216 ≤ s) = true := decide_eq_true (by omega)
          have d1 : decide (s ≤ 150994944) = true := decide_eq_true (by omega)
          have d2 : decide (1000000 ≤ s) = true := decide_eq_true (by omega)
          have d3 : decide (s ≤ 400000000) = true := decide_eq_true (by omega)
          clear ga gm h hs0
          go_wp2_with fail
          refine (gnorm_calls a b c _).mono ?_
          rintro e v1 ⟨rfl, hc1⟩
          have hz0 := hc1.cell z0 (by simp)
          have hz1 := hc1.cell z1 (by simp)
          have hz2 := hc1.cell z2 (by simp)
          have HV1 := hide (HCr.out.trans hc1 (D := []) (by simp))
          have hn := HN.out
          clear hc1 z0 z1 z2
          go_wp2_with fail
          refine (accel_calls a b c _).mono ?_
          rw [GA.out]
          rintro e v2 ⟨rfl, hc2⟩
          have iz0 := hc2.cell hz0 (by simp)
          have iz1 := hc2.cell hz1 (by simp)
          have iz2 := hc2.cell hz2 (by simp)
          have HV2 := hide (HV1.out.trans hc2 (D := []) (by simp))
          clear hc2 hz0 hz1 hz2 hn
          go_wp2_with fail
          refine (mag_calls a b c _).mono ?_
          rw [GM.out]
          rintro e v3 ⟨rfl, hc3⟩
          have HV3 := hide (HV2.out.trans hc3 (D := []) (by simp))
          clear hc3 iz0 iz1 iz2
          go_wp2_with fail
          refine (awake32_calls _).mono ?_
          rintro e v4 ⟨rfl, hc4⟩
          have HV4 := hide (HV3.out.trans hc4 (D := []) (by simp))
          clear hc4
          go_wp2
          go_ret
          exact ⟨rfl, HV4.out⟩
        · have GA : Hid (gateB (squareW a b c) 16777216 150994944 = false) := hide (by rw [ga]; exact decide_eq_false (by omega))
          have GM : Hid (gateB (squareW a b c) 1000000 400000000 = true) := hide (by rw [gm]; exact decide_eq_true (by omega))
          have d0 : decide (16777216 ≤ s) = true := decide_eq_true (by omega)
          have d1 : decide (s ≤ 150994944) = false := decide_eq_false (by omega)
          have d2 : decide (1000000 ≤ s) = true := decide_eq_true (by omega)
          have d3 : decide (s ≤ 400000000) = true := decide_eq_true (by omega)
          clear ga gm h hs0
          go_wp2_with fail
          refine (gnorm_calls a b c _).mono ?_
          rintro e v1 ⟨rfl, hc1⟩
          have hz0 := hc1.cell z0 (by simp)
          have hz1 := hc1.cell z1 (by simp)
          have hz2 := hc1.cell z2 (by simp)
          have HV1 := hide (HCr.out.trans hc1 (D := []) (by simp))
          have hn := HN.out
          clear hc1 z0 z1 z2
          go_wp2_with fail
          refine (accel_calls a b c _).mono ?_
          rw [GA.out]
          rintro e v2 ⟨rfl, hc2⟩
          have iz0 := hc2.cell hz0 (by simp)
          have iz1 := hc2.cell hz1 (by simp)
          have iz2 := hc2.cell hz2 (by simp)
          have HV2 := hide (HV1.out.trans hc2 (D := []) (by simp))
          clear hc2 hz0 hz1 hz2 hn
          go_wp2_with fail
          refine (mag_calls a b c _).mono ?_
          rw [GM.out]
          rintro e v3 ⟨rfl, hc3⟩
          have HV3 := hide (HV2.out.trans hc3 (D := []) (by simp))
          clear hc3 iz0 iz1 iz2
          go_wp2_with fail
          refine (awake32_calls _).mono ?_
          rintro e v4 ⟨rfl, hc4⟩
          have HV4 := hide (HV3.out.trans hc4 (D := []) (by simp))
          clear hc4
          go_wp2
          go_ret
          exact ⟨rfl, HV4.out⟩
        · have GA : Hid (gateB (squareW a b c) 16777216 150994944 = false) := hide (by rw [ga]; exact decide_eq_false (by omega))
          have GM : Hid (gateB (squareW a b c) 1000000 400000000 = false) := hide (by rw [gm]; exact decide_eq_false (by omega))
          have d0 : decide (16777216 ≤ s) = true := decide_eq_true (by omega)
          have d1 : decide (s ≤ 150994944) = false := decide_eq_false (by omega)
          have d2 : decide (1000000 ≤ s) = true := decide_eq_true (by omega)
          have d3 : decide (s ≤ 400000000) = false := decide_eq_false (by omega)
          clear ga gm h hs0
          go_wp2_with fail
          refine (gnorm_calls a b c _).mono ?_
          rintro e v1 ⟨rfl, hc1⟩
          have hz0 := hc1.cell z0 (by simp)
          have hz1 := hc1.cell z1 (by simp)
          have hz2 := hc1.cell z2 (by simp)
          have HV1 := hide (HCr.out.trans hc1 (D := []) (by simp))
          have hn := HN.out
          clear hc1 z0 z1 z2
          go_wp2_with fail
          refine (accel_calls a b c _).mono ?_
          rw [GA.out]
          rintro e v2 ⟨rfl, hc2⟩
          have iz0 := hc2.cell hz0 (by simp)
          have iz1 := hc2.cell hz1 (by simp)
          have iz2 := hc2.cell hz2 (by simp)
          have HV2 := hide (HV1.out.trans hc2 (D := []) (by simp))
          clear hc2 hz0 hz1 hz2 hn
          go_wp2_with fail
          refine (mag_calls a b c _).mono ?_
          rw [GM.out]
          rintro e v3 ⟨rfl, hc3⟩
          have HV3 := hide (HV2.out.trans hc3 (D := []) (by simp))
          clear hc3 iz0 iz1 iz2
          go_wp2_with fail
          refine (awake32_calls _).mono ?_
          rintro e v4 ⟨rfl, hc4⟩
          have HV4 := hide (HV3.out.trans hc4 (D := []) (by simp))
          clear hc4
          go_wp2
          go_ret
          exact ⟨rfl, HV4.out⟩
  · have hs : shortB a b c = false := by simpa using hs
    go_enter Try.func3, Try.ntmps3
    go_wp2_with fail
    refine (short_calls a b c _).mono ?_
    rw [hs]
    rintro e w1 ⟨rfl, hc⟩
    have HC1 := hide (HC.out.trans hc (D := []) (by simp))
    clear hc HC g0_0 g0_1 g0_2 hs
    go_wp2_with fail
    refine (awake32_calls _).mono ?_
    rintro e w2 ⟨rfl, hc2⟩
    have HC2 := hide (HC1.out.trans hc2 (D := []) (by simp))
    clear hc2 HC1
    go_wp2
    go_ret
    exact ⟨rfl, HC2.out⟩
end Go.Proofs.Ytbmfcedndbgpoaa
