/- StepGates, in all its ways. -/
import Derived.Test.YtbmfcedndbgpoaaGreatGates1
namespace Go.Proofs.YtbmfcedndbgpoaaGreat
open Go.RowKit Go.Deep
set_option linter.unusedVariables false
theorem acc_0 {g m : Wd} (h : g.v = 0) : bits BinOp.and IntKind.i64 (flagsI g m) 2 = 2 := by rw [flags_acc]; unfold flagI; rw [if_pos h]
theorem acc_1 {g m : Wd} (h : ¬ g.v = 0) : bits BinOp.and IntKind.i64 (flagsI g m) 2 = 0 := by rw [flags_acc]; unfold flagI; rw [if_neg h]
theorem mag_0 {g m : Wd} (h : m.v = 0) : bits BinOp.and IntKind.i64 (flagsI g m) 4 = 4 := by rw [flags_mag]; unfold flagI; rw [if_pos h]
theorem mag_1 {g m : Wd} (h : ¬ m.v = 0) : bits BinOp.and IntKind.i64 (flagsI g m) 4 = 0 := by rw [flags_mag]; unfold flagI; rw [if_neg h]
theorem ain_0 {a b c : Wd} (h : (sensedA a b c).v = 0) : Hid (inside 16777216 150994944 a.v b.v c.v = false) := hide (by rw [accel_gate]; simp [h])
theorem ain_1 {a b c : Wd} (h : ¬ (sensedA a b c).v = 0) : Hid (inside 16777216 150994944 a.v b.v c.v = true) := hide (by rw [accel_gate]; simp [h])
theorem min_0 {a b c : Wd} (h : (sensedM a b c).v = 0) : Hid (inside 1000000 400000000 a.v b.v c.v = false) := hide (by rw [mag_gate]; simp [h])
theorem min_1 {a b c : Wd} (h : ¬ (sensedM a b c).v = 0) : Hid (inside 1000000 400000000 a.v b.v c.v = true) := hide (by rw [mag_gate]; simp [h])
theorem stepGates_calls (a b c d u0 u1 u2 a0 a1 a2 v0 v1 v2 b0 b1 b2 n0 n1 n2 : Wd) (w : World) : Calls Tryz.prog 10 #[.agg #[.int .i32 a.v, .int .i32 b.v, .int .i32 c.v, .int .i32 d.v], .agg #[.int .i32 u0.v, .int .i32 u1.v, .int .i32 u2.v, .int .i32 a0.v, .int .i32 a1.v, .int .i32 a2.v, .int .i32 v0.v, .int .i32 v1.v, .int .i32 v2.v], .agg #[.int .i32 b0.v, .int .i32 b1.v, .int .i32 b2.v], .agg #[.int .i32 n0.v, .int .i32 n1.v, .int .i32 n2.v]] w fun e w' => e = .returned (.bool true) ∧ Chg w w' [] := by
  by_cases hA : (sensedA a0 a1 a2).v = 0
  · by_cases kA : (sensedA b0 b1 b2).v = 0
    · by_cases hM : (sensedM v0 v1 v2).v = 0
      · by_cases kM : (sensedM n0 n1 n2).v = 0
        · exact gates_ff_ff a b c d u0 u1 u2 a0 a1 a2 v0 v1 v2 b0 b1 b2 n0 n1 n2 _ _ _ (hide rfl) (hide ((sensed_acc a b c d u0 u1 u2 a0 a1 a2 v0 v1 v2 b0 b1 b2 n0 n1 n2 hA kA).symm)) (hide rfl) (hide rfl) (acc_0 hA) (mag_0 hM) (flags_rest _ _) (acc_0 kA) (ain_0 hA) (min_0 hM) (ain_0 kA) (min_0 kM) w
        · exact gates_ft_ff a b c d u0 u1 u2 a0 a1 a2 v0 v1 v2 b0 b1 b2 n0 n1 n2 _ _ _ (hide rfl) (hide ((sensed_acc a b c d u0 u1 u2 a0 a1 a2 v0 v1 v2 b0 b1 b2 n0 n1 n2 hA kA).symm)) (hide rfl) (hide rfl) (acc_0 hA) (mag_0 hM) (flags_rest _ _) (acc_0 kA) (ain_0 hA) (min_0 hM) (ain_0 kA) (min_1 kM) w
      · exact gates_t_ff a b c d u0 u1 u2 a0 a1 a2 v0 v1 v2 b0 b1 b2 n0 n1 n2 _ _ _ (hide rfl) (hide ((sensed_acc a b c d u0 u1 u2 a0 a1 a2 v0 v1 v2 b0 b1 b2 n0 n1 n2 hA kA).symm)) (hide rfl) (hide rfl) (acc_0 hA) (mag_1 hM) (flags_rest _ _) (acc_0 kA) (ain_0 hA) (min_1 hM) (ain_0 kA) w
    · by_cases hM : (sensedM v0 v1 v2).v = 0
      · by_cases kM : (sensedM n0 n1 n2).v = 0
        · exact gates_ff_ft a b c d u0 u1 u2 a0 a1 a2 v0 v1 v2 b0 b1 b2 n0 n1 n2 _ _ _ (hide rfl) (hide ((sensed_mag a b c d u0 u1 u2 a0 a1 a2 v0 v1 v2 n0 n1 n2 hM kM).symm)) (hide rfl) (hide rfl) (acc_0 hA) (mag_0 hM) (flags_rest _ _) (acc_0 hA) (ain_0 hA) (min_0 hM) (ain_1 kA) (min_0 kM) w
        · exact gates_ft_ft a b c d u0 u1 u2 a0 a1 a2 v0 v1 v2 b0 b1 b2 n0 n1 n2 _ _ _ (hide rfl) (hide (rfl)) (hide rfl) (hide rfl) (acc_0 hA) (mag_0 hM) (flags_rest _ _) (acc_0 hA) (ain_0 hA) (min_0 hM) (ain_1 kA) (min_1 kM) w
      · exact gates_t_ft a b c d u0 u1 u2 a0 a1 a2 v0 v1 v2 b0 b1 b2 n0 n1 n2 _ _ _ (hide rfl) (hide (rfl)) (hide rfl) (hide rfl) (acc_0 hA) (mag_1 hM) (flags_rest _ _) (acc_0 hA) (ain_0 hA) (min_1 hM) (ain_1 kA) w
  · by_cases hM : (sensedM v0 v1 v2).v = 0
    · by_cases kM : (sensedM n0 n1 n2).v = 0
      · exact gates_ff_t a b c d u0 u1 u2 a0 a1 a2 v0 v1 v2 b0 b1 b2 n0 n1 n2 _ _ _ (hide rfl) (hide ((sensed_mag a b c d u0 u1 u2 a0 a1 a2 v0 v1 v2 n0 n1 n2 hM kM).symm)) (hide rfl) (hide rfl) (acc_1 hA) (mag_0 hM) (flags_rest _ _) (acc_1 hA) (ain_1 hA) (min_0 hM) (min_0 kM) w
      · exact gates_ft_t a b c d u0 u1 u2 a0 a1 a2 v0 v1 v2 b0 b1 b2 n0 n1 n2 _ _ _ (hide rfl) (hide (rfl)) (hide rfl) (hide rfl) (acc_1 hA) (mag_0 hM) (flags_rest _ _) (acc_1 hA) (ain_1 hA) (min_0 hM) (min_1 kM) w
    · exact gates_t_t a b c d u0 u1 u2 a0 a1 a2 v0 v1 v2 b0 b1 b2 n0 n1 n2 _ _ _ (hide rfl) (hide (rfl)) (hide rfl) (hide rfl) (acc_1 hA) (mag_1 hM) (flags_rest _ _) (acc_1 hA) (ain_1 hA) (min_1 hM) w
end Go.Proofs.YtbmfcedndbgpoaaGreat
