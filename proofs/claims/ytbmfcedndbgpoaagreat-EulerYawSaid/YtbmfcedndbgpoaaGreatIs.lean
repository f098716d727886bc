/- Whether a quaternion's squares are near to 2^60. -/
import Derived.Test.YtbmfcedndbgpoaaGreatNewton
import Derived.Test.YtbmfcedndbgpoaaGreatWdef
import Derived.Test.YtbmfcedndbgpoaaGreatKeep
namespace Go.Proofs.YtbmfcedndbgpoaaGreat
open Go.RowKit Go.Deep
set_option linter.unusedVariables false
instance (a b c d : Wd) : Decidable (IsQ a b c d) := by unfold IsQ; infer_instance
def isB (a b c d : Wd) : Bool := decide (IsQ a b c d)
def isS (a b c d : Int) : Nat → Int
  | 0 => 0
  | 1 => a * a
  | 2 => a * a + b * b
  | 3 => a * a + b * b + c * c
  | _ => a * a + b * b + c * c + d * d
theorem isB_no {a b c d : Wd} (h : ¬ IsQ a b c d) : isB a b c d = false := decide_eq_false h
theorem isB_yes {a b c d : Wd} (h : IsQ a b c d) : isB a b c d = true := decide_eq_true h
theorem sq_cap {x : Int} (h : -1342177280 ≤ x ∧ x ≤ 1342177280) : 0 ≤ x * x ∧ x * x ≤ 1801439850948198400 := ⟨sq_nonneg _, (mul_bd h h).2⟩
set_option maxRecDepth 100000 in
set_option maxHeartbeats 8000000 in
theorem is_calls (a b c d : Wd) (w : World) : Calls Tryz.prog 25 #[.agg #[.int .i32 a.v, .int .i32 b.v, .int .i32 c.v, .int .i32 d.v]] w fun e w' => e = .returned (.bool (isB a b c d)) ∧ Chg w w' [] := by
  have k0 := Blk.new w 28 [.int .i32 a.v, .int .i32 b.v, .int .i32 c.v, .int .i32 d.v]
  have m0 := k0
  have g0_0 := m0.cell' (i := 0) rfl
  have g0_1 := m0.cell' (i := 1) rfl
  have g0_2 := m0.cell' (i := 2) rfl
  have g0_3 := m0.cell' (i := 3) rfl
  have HC := hide ((Chg.refl w []).alloc (.cells #[.int .i32 a.v, .int .i32 b.v, .int .i32 c.v, .int .i32 d.v] 28))
  clear k0
  clear m0
  go_enter Tryz.func25, Tryz.ntmps25
  go_wp2_with fail
  generalize hw5 : (w.alloc (.cells #[.int .i32 a.v, .int .i32 b.v, .int .i32 c.v, .int .i32 d.v] 28)) = w5 at *
  clear hw5
  go_loopw [3, 4] (fun n i wr => ∃ k : Nat, k ≤ 4 ∧ i = .int .i64 k ∧ n = .int .i64 (isS a.v b.v c.v d.v k) ∧ Hid (Chg w5 wr []) ∧ (1 ≤ k → -1342177280 ≤ a.v ∧ a.v ≤ 1342177280) ∧ (2 ≤ k → -1342177280 ≤ b.v ∧ b.v ≤ 1342177280) ∧ (3 ≤ k → -1342177280 ≤ c.v ∧ c.v ≤ 1342177280) ∧ (4 ≤ k → -1342177280 ≤ d.v ∧ d.v ≤ 1342177280)) (fun _ i _ => 4 - (intOf i).toNat)
  case atStart => exact ⟨0, by omega, rfl, rfl, Chg.refl _ _, by omega, by omega, by omega, by omega⟩
  case round =>
    obtain ⟨k, hk, rfl, rfl, HK, r1, r2, r3, r4⟩ := hrel
    have R1 := hide r1
    have R2 := hide r2
    have R3 := hide r3
    have R4 := hide r4
    clear r1 r2 r3 r4
    have z0 := HK.out.cell g0_0 (by simp)
    have z1 := HK.out.cell g0_1 (by simp)
    have z2 := HK.out.cell g0_2 (by simp)
    have z3 := HK.out.cell g0_3 (by simp)
    clear g0_0 g0_1 g0_2 g0_3
    rcases (by omega : k = 0 ∨ k = 1 ∨ k = 2 ∨ k = 3 ∨ k = 4) with rfl | rfl | rfl | rfl | rfl
    · replace HK : Hid (Chg w5 wr []) := HK
      by_cases h1 : -1342177280 ≤ a.v
      · by_cases h2 : a.v ≤ 1342177280
        · have h3 : ¬ a.v < -1342177280 := by omega
          have h4 : ¬ 1342177280 < a.v := by omega
          obtain ⟨s0a, s0b⟩ := sq_cap ⟨h1, h2⟩
          have e0 : isS a.v b.v c.v d.v 0 = 0 := rfl
          rw [e0]
          have e1 : IntKind.i64.wrap a.v = a.v := by rw [IntKind.wrap_i64]; omega
          have e2 : IntKind.i64.wrap (a.v * a.v) = a.v * a.v := by rw [IntKind.wrap_i64]; omega
          have e3 : IntKind.i64.wrap (0 + a.v * a.v) = 0 + a.v * a.v := by rw [IntKind.wrap_i64]; omega
          have E3 := hide (show isS a.v b.v c.v d.v 1 = 0 + a.v * a.v from (Int.zero_add _).symm)
          clear s0a s0b e0
          go_wp2_with fail
          go_quiet (fail)
          clear e1 e2 e3
          go_wp2
          go_roundw
          case rel => exact ⟨1, by omega, by go_num, by rw [E3.out, Int.zero_add], HK.out.drewN _, fun _ => ⟨h1, h2⟩, by omega, by omega, by omega⟩
          case measure => simp [intOf]
        · have h4 : 1342177280 < a.v := by omega
          have h3 : ¬ a.v < -1342177280 := by omega
          clear h1 h2
          have hB : isB a b c d = false := isB_no (fun h => by have := h.1; omega)
          have HB := hide hB
          clear hB
          go_wp2
          go_ret
          exact ⟨by rw [HB.out]; rfl, HC.out.trans HK.out (D := []) (by simp)⟩
      · have h3 : a.v < -1342177280 := by omega
        clear h1
        have hB : isB a b c d = false := isB_no (fun h => by have := h.1; omega)
        have HB := hide hB
        clear hB
        go_wp2
        go_ret
        exact ⟨by rw [HB.out]; rfl, HC.out.trans HK.out (D := []) (by simp)⟩
    · replace HK : Hid (Chg w5 wr []) := HK
      by_cases h1 : -1342177280 ≤ b.v
      · by_cases h2 : b.v ≤ 1342177280
        · have h3 : ¬ b.v < -1342177280 := by omega
          have h4 : ¬ 1342177280 < b.v := by omega
          obtain ⟨s0a, s0b⟩ := sq_cap (R1.out (by omega))
          obtain ⟨s1a, s1b⟩ := sq_cap ⟨h1, h2⟩
          have e0 : isS a.v b.v c.v d.v 1 = a.v * a.v := rfl
          rw [e0]
          have e1 : IntKind.i64.wrap b.v = b.v := by rw [IntKind.wrap_i64]; omega
          have e2 : IntKind.i64.wrap (b.v * b.v) = b.v * b.v := by rw [IntKind.wrap_i64]; omega
          have e3 : IntKind.i64.wrap (a.v * a.v + b.v * b.v) = a.v * a.v + b.v * b.v := by rw [IntKind.wrap_i64]; omega
          have E3 := hide (show isS a.v b.v c.v d.v 2 = a.v * a.v + b.v * b.v from rfl)
          clear s0a s0b s1a s1b e0
          go_wp2_with fail
          go_quiet (fail)
          clear e1 e2 e3
          go_wp2
          go_roundw
          case rel => exact ⟨2, by omega, by go_num, by rw [E3.out], HK.out.drewN _, fun _ => R1.out (by omega), fun _ => ⟨h1, h2⟩, by omega, by omega⟩
          case measure => simp [intOf]
        · have h4 : 1342177280 < b.v := by omega
          have h3 : ¬ b.v < -1342177280 := by omega
          clear h1 h2
          have hB : isB a b c d = false := isB_no (fun h => by have := h.2.1; omega)
          have HB := hide hB
          clear hB
          go_wp2
          go_ret
          exact ⟨by rw [HB.out]; rfl, HC.out.trans HK.out (D := []) (by simp)⟩
      · have h3 : b.v < -1342177280 := by omega
        clear h1
        have hB : isB a b c d = false := isB_no (fun h => by have := h.2.1; omega)
        have HB := hide hB
        clear hB
        go_wp2
        go_ret
        exact ⟨by rw [HB.out]; rfl, HC.out.trans HK.out (D := []) (by simp)⟩
    · replace HK : Hid (Chg w5 wr []) := HK
      by_cases h1 : -1342177280 ≤ c.v
      · by_cases h2 : c.v ≤ 1342177280
        · have h3 : ¬ c.v < -1342177280 := by omega
          have h4 : ¬ 1342177280 < c.v := by omega
          obtain ⟨s0a, s0b⟩ := sq_cap (R1.out (by omega))
          obtain ⟨s1a, s1b⟩ := sq_cap (R2.out (by omega))
          obtain ⟨s2a, s2b⟩ := sq_cap ⟨h1, h2⟩
          have e0 : isS a.v b.v c.v d.v 2 = a.v * a.v + b.v * b.v := rfl
          rw [e0]
          have e1 : IntKind.i64.wrap c.v = c.v := by rw [IntKind.wrap_i64]; omega
          have e2 : IntKind.i64.wrap (c.v * c.v) = c.v * c.v := by rw [IntKind.wrap_i64]; omega
          have e3 : IntKind.i64.wrap (a.v * a.v + b.v * b.v + c.v * c.v) = a.v * a.v + b.v * b.v + c.v * c.v := by rw [IntKind.wrap_i64]; omega
          have E3 := hide (show isS a.v b.v c.v d.v 3 = a.v * a.v + b.v * b.v + c.v * c.v from rfl)
          clear s0a s0b s1a s1b s2a s2b e0
          go_wp2_with fail
          go_quiet (fail)
          clear e1 e2 e3
          go_wp2
          go_roundw
          case rel => exact ⟨3, by omega, by go_num, by rw [E3.out], HK.out.drewN _, fun _ => R1.out (by omega), fun _ => R2.out (by omega), fun _ => ⟨h1, h2⟩, by omega⟩
          case measure => simp [intOf]
        · have h4 : 1342177280 < c.v := by omega
          have h3 : ¬ c.v < -1342177280 := by omega
          clear h1 h2
          have hB : isB a b c d = false := isB_no (fun h => by have := h.2.2.1; omega)
          have HB := hide hB
          clear hB
          go_wp2
          go_ret
          exact ⟨by rw [HB.out]; rfl, HC.out.trans HK.out (D := []) (by simp)⟩
      · have h3 : c.v < -1342177280 := by omega
        clear h1
        have hB : isB a b c d = false := isB_no (fun h => by have := h.2.2.1; omega)
        have HB := hide hB
        clear hB
        go_wp2
        go_ret
        exact ⟨by rw [HB.out]; rfl, HC.out.trans HK.out (D := []) (by simp)⟩
    · replace HK : Hid (Chg w5 wr []) := HK
      by_cases h1 : -1342177280 ≤ d.v
      · by_cases h2 : d.v ≤ 1342177280
        · have h3 : ¬ d.v < -1342177280 := by omega
          have h4 : ¬ 1342177280 < d.v := by omega
          obtain ⟨s0a, s0b⟩ := sq_cap (R1.out (by omega))
          obtain ⟨s1a, s1b⟩ := sq_cap (R2.out (by omega))
          obtain ⟨s2a, s2b⟩ := sq_cap (R3.out (by omega))
          obtain ⟨s3a, s3b⟩ := sq_cap ⟨h1, h2⟩
          have e0 : isS a.v b.v c.v d.v 3 = a.v * a.v + b.v * b.v + c.v * c.v := rfl
          rw [e0]
          have e1 : IntKind.i64.wrap d.v = d.v := by rw [IntKind.wrap_i64]; omega
          have e2 : IntKind.i64.wrap (d.v * d.v) = d.v * d.v := by rw [IntKind.wrap_i64]; omega
          have e3 : IntKind.i64.wrap (a.v * a.v + b.v * b.v + c.v * c.v + d.v * d.v) = a.v * a.v + b.v * b.v + c.v * c.v + d.v * d.v := by rw [IntKind.wrap_i64]; omega
          have E3 := hide (show isS a.v b.v c.v d.v 4 = a.v * a.v + b.v * b.v + c.v * c.v + d.v * d.v from rfl)
          clear s0a s0b s1a s1b s2a s2b s3a s3b e0
          go_wp2_with fail
          go_quiet (fail)
          clear e1 e2 e3
          go_wp2
          go_roundw
          case rel => exact ⟨4, by omega, by go_num, by rw [E3.out], HK.out.drewN _, fun _ => R1.out (by omega), fun _ => R2.out (by omega), fun _ => R3.out (by omega), fun _ => ⟨h1, h2⟩⟩
          case measure => simp [intOf]
        · have h4 : 1342177280 < d.v := by omega
          have h3 : ¬ d.v < -1342177280 := by omega
          clear h1 h2
          have hB : isB a b c d = false := isB_no (fun h => by have := h.2.2.2.1; omega)
          have HB := hide hB
          clear hB
          go_wp2
          go_ret
          exact ⟨by rw [HB.out]; rfl, HC.out.trans HK.out (D := []) (by simp)⟩
      · have h3 : d.v < -1342177280 := by omega
        clear h1
        have hB : isB a b c d = false := isB_no (fun h => by have := h.2.2.2.1; omega)
        have HB := hide hB
        clear hB
        go_wp2
        go_ret
        exact ⟨by rw [HB.out]; rfl, HC.out.trans HK.out (D := []) (by simp)⟩
    · have r1 := R1.out (by omega)
      have r2 := R2.out (by omega)
      have r3 := R3.out (by omega)
      have r4 := R4.out (by omega)
      obtain ⟨s0a, s0b⟩ := sq_cap r1
      obtain ⟨s1a, s1b⟩ := sq_cap r2
      obtain ⟨s2a, s2b⟩ := sq_cap r3
      obtain ⟨s3a, s3b⟩ := sq_cap r4
      have e0 : isS a.v b.v c.v d.v 4 = a.v * a.v + b.v * b.v + c.v * c.v + d.v * d.v := rfl
      rw [e0]
      have hiff : isB a b c d = (decide (a.v * a.v + b.v * b.v + c.v * c.v + d.v * d.v - 1152921504606846976 < 68719476736) && decide (-68719476736 < a.v * a.v + b.v * b.v + c.v * c.v + d.v * d.v - 1152921504606846976)) := by
        unfold isB IsQ
        simp only [r1, r2, r3, r4, and_self, true_and, Bool.decide_and]
      have HB := hide hiff
      have e3 : IntKind.i64.wrap (a.v * a.v + b.v * b.v + c.v * c.v + d.v * d.v - 1152921504606846976) = a.v * a.v + b.v * b.v + c.v * c.v + d.v * d.v - 1152921504606846976 := by rw [IntKind.wrap_i64]; omega
      have b0 : 0 ≤ a.v * a.v + b.v * b.v + c.v * c.v + d.v * d.v := by omega
      have b1 : a.v * a.v + b.v * b.v + c.v * c.v + d.v * d.v ≤ 7205759403792793600 := by omega
      clear hiff e0 R1 R2 R3 R4 r1 r2 r3 r4 s0a s0b s1a s1b s2a s2b s3a s3b
      generalize a.v * a.v + b.v * b.v + c.v * c.v + d.v * d.v = N at *
      by_cases h1 : N - 1152921504606846976 < 68719476736
      · by_cases h2 : -68719476736 < N - 1152921504606846976
        · rw [decide_eq_true h1, decide_eq_true h2] at HB
          go_wp2
          go_ret
          exact ⟨by rw [HB.out]; rfl, HC.out.trans HK.out (D := []) (by simp)⟩
        · rw [decide_eq_true h1, decide_eq_false h2] at HB
          go_wp2
          go_ret
          exact ⟨by rw [HB.out]; rfl, HC.out.trans HK.out (D := []) (by simp)⟩
      · rw [decide_eq_false h1] at HB
        go_wp2
        go_ret
        exact ⟨by rw [HB.out]; rfl, HC.out.trans HK.out (D := []) (by simp)⟩
end Go.Proofs.YtbmfcedndbgpoaaGreat
