/- GradShort. -/
import Derived.Test.YtbmfcedndbgpoaaAwake3
import Derived.Test.YtbmfcedndbgpoaaEvenLaw2
namespace Go.Proofs.Ytbmfcedndbgpoaa
open Go.RowKit Go.Deep
set_option linter.unusedVariables false
set_option maxRecDepth 100000 in
set_option maxHeartbeats 4000000 in
theorem gradShort_calls (a b c d : Wd) (w : World) : Calls Try.prog 7 #[.agg #[.int .i32 a.v, .int .i32 b.v, .int .i32 c.v, .int .i32 d.v]] w fun e w' => e = .returned (.bool true) ∧ Chg w w' [] := by
  have k0 := Blk.new w 30 [.int .i32 a.v, .int .i32 b.v, .int .i32 c.v, .int .i32 d.v]
  have m0 := k0
  have g0_0 := m0.cell' (i := 0) rfl
  have g0_1 := m0.cell' (i := 1) rfl
  have g0_2 := m0.cell' (i := 2) rfl
  have g0_3 := m0.cell' (i := 3) rfl
  have HC := hide ((Chg.refl w []).alloc (.cells #[.int .i32 a.v, .int .i32 b.v, .int .i32 c.v, .int .i32 d.v] 30))
  clear k0
  clear m0
  go_enter Try.func7, Try.ntmps7
  go_wp2_with fail
  generalize hw5 : (w.alloc (.cells #[.int .i32 a.v, .int .i32 b.v, .int .i32 c.v, .int .i32 d.v] 30)) = w5 at *
  clear hw5
  go_loop [3] (fun i => ∃ k : Nat, k ≤ 4 ∧ i = .int .i64 k ∧ (1 ≤ k → -536870912 ≤ a.v ∧ a.v ≤ 536870912) ∧ (2 ≤ k → -536870912 ≤ b.v ∧ b.v ≤ 536870912) ∧ (3 ≤ k → -536870912 ≤ c.v ∧ c.v ≤ 536870912) ∧ (4 ≤ k → -536870912 ≤ d.v ∧ d.v ≤ 536870912)) (fun i => 4 - (intOf i).toNat)
  case atStart => exact ⟨0, by omega, rfl, by omega, by omega, by omega, by omega⟩
  case round =>
    obtain ⟨k, hk, rfl, r1, r2, r3, r4⟩ := hrel
    have R1 := hide r1
    have R2 := hide r2
    have R3 := hide r3
    have R4 := hide r4
    clear r1 r2 r3 r4
    rcases (by omega : k = 0 ∨ k = 1 ∨ k = 2 ∨ k = 3 ∨ k = 4) with rfl | rfl | rfl | rfl | rfl
    · by_cases h1 : -536870912 ≤ a.v
      · by_cases h2 : a.v ≤ 536870912
        · have h3 : ¬ a.v < -536870912 := by omega
          have h4 : ¬ 536870912 < a.v := by omega
          go_wp2
          go_round
          case rel => exact ⟨1, by omega, by go_num, fun _ => ⟨h1, h2⟩, by omega, by omega, by omega⟩
          case measure => simp [intOf]
        · have h4 : 536870912 < a.v := by omega
          have h3 : ¬ a.v < -536870912 := by omega
          clear h1 h2
          go_wp2_with fail
          refine (awake33_calls _).mono ?_
          rintro e v4 ⟨rfl, hc4⟩
          have HV4 := hide (HC.out.trans hc4 (D := []) (by simp))
          clear hc4
          go_wp2
          go_ret
          exact ⟨rfl, HV4.out⟩
      · have h3 : a.v < -536870912 := by omega
        clear h1
        go_wp2_with fail
        refine (awake33_calls _).mono ?_
        rintro e v4 ⟨rfl, hc4⟩
        have HV4 := hide (HC.out.trans hc4 (D := []) (by simp))
        clear hc4
        go_wp2
        go_ret
        exact ⟨rfl, HV4.out⟩
    · by_cases h1 : -536870912 ≤ b.v
      · by_cases h2 : b.v ≤ 536870912
        · have h3 : ¬ b.v < -536870912 := by omega
          have h4 : ¬ 536870912 < b.v := by omega
          go_wp2
          go_round
          case rel => exact ⟨2, by omega, by go_num, fun _ => R1.out (by omega), fun _ => ⟨h1, h2⟩, by omega, by omega⟩
          case measure => simp [intOf]
        · have h4 : 536870912 < b.v := by omega
          have h3 : ¬ b.v < -536870912 := by omega
          clear h1 h2
          go_wp2_with fail
          refine (awake33_calls _).mono ?_
          rintro e v4 ⟨rfl, hc4⟩
          have HV4 := hide (HC.out.trans hc4 (D := []) (by simp))
          clear hc4
          go_wp2
          go_ret
          exact ⟨rfl, HV4.out⟩
      · have h3 : b.v < -536870912 := by omega
        clear h1
        go_wp2_with fail
        refine (awake33_calls _).mono ?_
        rintro e v4 ⟨rfl, hc4⟩
        have HV4 := hide (HC.out.trans hc4 (D := []) (by simp))
        clear hc4
        go_wp2
        go_ret
        exact ⟨rfl, HV4.out⟩
    · by_cases h1 : -536870912 ≤ c.v
      · by_cases h2 : c.v ≤ 536870912
        · have h3 : ¬ c.v < -536870912 := by omega
          have h4 : ¬ 536870912 < c.v := by omega
          go_wp2
          go_round
          case rel => exact ⟨3, by omega, by go_num, fun _ => R1.out (by omega), fun _ => R2.out (by omega), fun _ => ⟨h1, h2⟩, by omega⟩
          case measure => simp [intOf]
        · have h4 : 536870912 < c.v := by omega
          have h3 : ¬ c.v < -536870912 := by omega
          clear h1 h2
          go_wp2_with fail
          refine (awake33_calls _).mono ?_
          rintro e v4 ⟨rfl, hc4⟩
          have HV4 := hide (HC.out.trans hc4 (D := []) (by simp))
          clear hc4
          go_wp2
          go_ret
          exact ⟨rfl, HV4.out⟩
      · have h3 : c.v < -536870912 := by omega
        clear h1
        go_wp2_with fail
        refine (awake33_calls _).mono ?_
        rintro e v4 ⟨rfl, hc4⟩
        have HV4 := hide (HC.out.trans hc4 (D := []) (by simp))
        clear hc4
        go_wp2
        go_ret
        exact ⟨rfl, HV4.out⟩
    · by_cases h1 : -536870912 ≤ d.v
      · by_cases h2 : d.v ≤ 536870912
        · have h3 : ¬ d.v < -536870912 := by omega
          have h4 : ¬ 536870912 < d.v := by omega
          go_wp2
          go_round
          case rel => exact ⟨4, by omega, by go_num, fun _ => R1.out (by omega), fun _ => R2.out (by omega), fun _ => R3.out (by omega), fun _ => ⟨h1, h2⟩⟩
          case measure => simp [intOf]
        · have h4 : 536870912 < d.v := by omega
          have h3 : ¬ d.v < -536870912 := by omega
          clear h1 h2
          go_wp2_with fail
          refine (awake33_calls _).mono ?_
          rintro e v4 ⟨rfl, hc4⟩
          have HV4 := hide (HC.out.trans hc4 (D := []) (by simp))
          clear hc4
          go_wp2
          go_ret
          exact ⟨rfl, HV4.out⟩
      · have h3 : d.v < -536870912 := by omega
        clear h1
        go_wp2_with fail
        refine (awake33_calls _).mono ?_
        rintro e v4 ⟨rfl, hc4⟩
        have HV4 := hide (HC.out.trans hc4 (D := []) (by simp))
        clear hc4
        go_wp2
        go_ret
        exact ⟨rfl, HV4.out⟩
    · have ra := R1.out (by omega)
      have rb := R2.out (by omega)
      have rc := R3.out (by omega)
      have rd := R4.out (by omega)
      obtain ⟨xx, qq⟩ := even_short a b c d ra rb rc rd
      have e0 := hide (even_part ra xx (qq a (by simp)))
      have e1 := hide (even_part rb xx (qq b (by simp)))
      have e2 := hide (even_part rc xx (qq c (by simp)))
      have e3 := hide (even_part rd xx (qq d (by simp)))
      have RA := hide ra
      have RB := hide rb
      have RC := hide rc
      have RD := hide rd
      clear ra rb rc rd xx qq R1 R2 R3 R4
      go_wp2_with fail
      refine (dunit_calls a b c d _).mono ?_
      rintro e w6 ⟨rfl, hc⟩
      have HC6 := hide (HC.out.trans hc (D := []) (by simp))
      have y0 := hc.cell g0_0 (by simp)
      have y1 := hc.cell g0_1 (by simp)
      have y2 := hc.cell g0_2 (by simp)
      have y3 := hc.cell g0_3 (by simp)
      have f0 : Hid (∃ U : Int, (evenW a b c d).a.v = U ∧ -1073750000 ≤ U ∧ U ≤ 1073750000 ∧ 0 ≤ U * a.v) := e0
      have f1 : Hid (∃ U : Int, (evenW a b c d).b.v = U ∧ -1073750000 ≤ U ∧ U ≤ 1073750000 ∧ 0 ≤ U * b.v) := e1
      have f2 : Hid (∃ U : Int, (evenW a b c d).c.v = U ∧ -1073750000 ≤ U ∧ U ≤ 1073750000 ∧ 0 ≤ U * c.v) := e2
      have f3 : Hid (∃ U : Int, (evenW a b c d).d.v = U ∧ -1073750000 ≤ U ∧ U ≤ 1073750000 ∧ 0 ≤ U * d.v) := e3
      clear hc HC g0_0 g0_1 g0_2 g0_3 e0 e1 e2 e3
      generalize (evenW a b c d).a = U0 at *
      generalize (evenW a b c d).b = U1 at *
      generalize (evenW a b c d).c = U2 at *
      generalize (evenW a b c d).d = U3 at *
      go_wp2_with fail
      have nb := Blk.new w6 30 [.int .i32 U0.v, .int .i32 U1.v, .int .i32 U2.v, .int .i32 U3.v]
      have ux0 := nb.cell' (i := 0) rfl
      have ux1 := nb.cell' (i := 1) rfl
      have ux2 := nb.cell' (i := 2) rfl
      have ux3 := nb.cell' (i := 3) rfl
      have ca := hide ((Chg.refl w6 []).alloc (.cells #[.int .i32 U0.v, .int .i32 U1.v, .int .i32 U2.v, .int .i32 U3.v] 30))
      have x0 := ca.out.cell y0 (by simp)
      have x1 := ca.out.cell y1 (by simp)
      have x2 := ca.out.cell y2 (by simp)
      have x3 := ca.out.cell y3 (by simp)
      have HC7 := hide (HC6.out.trans ca.out (D := []) (by simp))
      clear ca nb y0 y1 y2 y3 HC6
      generalize w6.heap.size = ub at *
      generalize (w6.alloc (.cells #[.int .i32 U0.v, .int .i32 U1.v, .int .i32 U2.v, .int .i32 U3.v] 30)) = w7 at *
      go_loopw [5] (fun i wr => ∃ k : Nat, k ≤ 4 ∧ i = .int .i64 k ∧ Hid (Chg w7 wr [])) (fun i _ => 4 - (intOf i).toNat)
      case atStart => exact ⟨0, by omega, rfl, Chg.refl _ _⟩
      case round =>
        obtain ⟨k, hk, rfl, HK⟩ := hrel
        have z0 := HK.out.cell x0 (by simp)
        have t0 := HK.out.cell ux0 (by simp)
        have z1 := HK.out.cell x1 (by simp)
        have t1 := HK.out.cell ux1 (by simp)
        have z2 := HK.out.cell x2 (by simp)
        have t2 := HK.out.cell ux2 (by simp)
        have z3 := HK.out.cell x3 (by simp)
        have t3 := HK.out.cell ux3 (by simp)
        rcases (by omega : k = 0 ∨ k = 1 ∨ k = 2 ∨ k = 3 ∨ k = 4) with rfl | rfl | rfl | rfl | rfl
        · obtain ⟨U, eU, l1, l2, l3⟩ := f0.out
          have rr := RA.out
          have tt := (ab (A := U) (B := a.v) (b := 536870912) rr).2
          have nn : (U.natAbs : Int) ≤ 1073750000 := by omega
          subst eU
          have e1 : IntKind.i64.wrap U0.v = U0.v := by rw [IntKind.wrap_i64]; omega
          have e2 : IntKind.i64.wrap a.v = a.v := by rw [IntKind.wrap_i64]; omega
          have e3 : IntKind.i64.wrap (U0.v * a.v) = U0.v * a.v := by rw [IntKind.wrap_i64]; omega
          have h1 : decide (1073758208 < U0.v) = false := by simp; omega
          have h2 : decide (U0.v < -1073758208) = false := by simp; omega
          have h3 : decide (U0.v * a.v < 0) = false := by simp; omega
          clear l1 l2 l3 rr tt nn
          go_wp2_with fail
          go_quiet (fail)
          clear e1 e2 e3 h1 h2 h3
          go_wp2
          go_roundw
          case rel => exact ⟨1, by omega, by go_num, HK.out.drewN _⟩
          case measure => simp [intOf]
        · obtain ⟨U, eU, l1, l2, l3⟩ := f1.out
          have rr := RB.out
          have tt := (ab (A := U) (B := b.v) (b := 536870912) rr).2
          have nn : (U.natAbs : Int) ≤ 1073750000 := by omega
          subst eU
          have e1 : IntKind.i64.wrap U1.v = U1.v := by rw [IntKind.wrap_i64]; omega
          have e2 : IntKind.i64.wrap b.v = b.v := by rw [IntKind.wrap_i64]; omega
          have e3 : IntKind.i64.wrap (U1.v * b.v) = U1.v * b.v := by rw [IntKind.wrap_i64]; omega
          have h1 : decide (1073758208 < U1.v) = false := by simp; omega
          have h2 : decide (U1.v < -1073758208) = false := by simp; omega
          have h3 : decide (U1.v * b.v < 0) = false := by simp; omega
          clear l1 l2 l3 rr tt nn
          go_wp2_with fail
          go_quiet (fail)
          clear e1 e2 e3 h1 h2 h3
          go_wp2
          go_roundw
          case rel => exact ⟨2, by omega, by go_num, HK.out.drewN _⟩
          case measure => simp [intOf]
        · obtain ⟨U, eU, l1, l2, l3⟩ := f2.out
          have rr := RC.out
          have tt := (ab (A := U) (B := c.v) (b := 536870912) rr).2
          have nn : (U.natAbs : Int) ≤ 1073750000 := by omega
          subst eU
          have e1 : IntKind.i64.wrap U2.v = U2.v := by rw [IntKind.wrap_i64]; omega
          have e2 : IntKind.i64.wrap c.v = c.v := by rw [IntKind.wrap_i64]; omega
          have e3 : IntKind.i64.wrap (U2.v * c.v) = U2.v * c.v := by rw [IntKind.wrap_i64]; omega
          have h1 : decide (1073758208 < U2.v) = false := by simp; omega
          have h2 : decide (U2.v < -1073758208) = false := by simp; omega
          have h3 : decide (U2.v * c.v < 0) = false := by simp; omega
          clear l1 l2 l3 rr tt nn
          go_wp2_with fail
          go_quiet (fail)
          clear e1 e2 e3 h1 h2 h3
          go_wp2
          go_roundw
          case rel => exact ⟨3, by omega, by go_num, HK.out.drewN _⟩
          case measure => simp [intOf]
        · obtain ⟨U, eU, l1, l2, l3⟩ := f3.out
          have rr := RD.out
          have tt := (ab (A := U) (B := d.v) (b := 536870912) rr).2
          have nn : (U.natAbs : Int) ≤ 1073750000 := by omega
          subst eU
          have e1 : IntKind.i64.wrap U3.v = U3.v := by rw [IntKind.wrap_i64]; omega
          have e2 : IntKind.i64.wrap d.v = d.v := by rw [IntKind.wrap_i64]; omega
          have e3 : IntKind.i64.wrap (U3.v * d.v) = U3.v * d.v := by rw [IntKind.wrap_i64]; omega
          have h1 : decide (1073758208 < U3.v) = false := by simp; omega
          have h2 : decide (U3.v < -1073758208) = false := by simp; omega
          have h3 : decide (U3.v * d.v < 0) = false := by simp; omega
          clear l1 l2 l3 rr tt nn
          go_wp2_with fail
          go_quiet (fail)
          clear e1 e2 e3 h1 h2 h3
          go_wp2
          go_roundw
          case rel => exact ⟨4, by omega, by go_num, HK.out.drewN _⟩
          case measure => simp [intOf]
        · have HC9 := hide (HC7.out.trans HK.out (D := []) (by simp))
          clear HC7 HK z0 z1 z2 z3 t0 t1 t2 t3 f0 f1 f2 f3 RA RB RC RD ux0 ux1 ux2 ux3 x0 x1 x2 x3
          go_wp2_with fail
          refine (awake33_calls _).mono ?_
          rintro e v8 ⟨rfl, hc8⟩
          have HV8 := hide (HC9.out.trans hc8 (D := []) (by simp))
          clear hc8
          go_wp2
          go_ret
          exact ⟨rfl, HV8.out⟩
end Go.Proofs.Ytbmfcedndbgpoaa
