/- The plain words of layer 1: Mod, Signed, Low, Plain. -/
import Derived.Test.YtkfkoobdmnndcaaGreatNum2
namespace Go.Proofs.YtkfkoobdmnndcaaGreat
open Go.RowKit Go.Deep
set_option linter.unusedVariables false
theorem emod_of_tmod {x n : Int} (hn : 0 < n) : x % n = if x.tmod n < 0 then x.tmod n + n else x.tmod n := by
  rw [Int.tmod_eq_emod]
  have h1 := Int.emod_nonneg x (by omega : n ≠ 0)
  have h2 := Int.emod_lt_of_pos x hn
  split <;> split <;> omega
set_option maxRecDepth 100000 in
set_option maxHeartbeats 1000000 in
theorem mod_calls (x n : Int) (w : World) (hx : -9223372036854775808 ≤ x ∧ x ≤ 9223372036854775807) (hn : 0 < n ∧ n ≤ 9223372036854775807) :
    Calls Tryz.prog 57 #[.int .i64 x, .int .i64 n] w fun e w' => e = .returned (.int .i64 (x % n)) ∧ w = w' := by
  have hm := @emod_of_tmod x n hn.1
  have h1 := Int.emod_nonneg x (by omega : n ≠ 0)
  have h2 := Int.emod_lt_of_pos x hn.1
  by_cases h0 : x.tmod n < 0
  · rw [if_pos h0] at hm
    go_enter Tryz.func57, Tryz.ntmps57
    go_wp2_with fail
    go_ret
    exact ⟨by first | rfl | (rw [hm]; rfl), rfl⟩
  · rw [if_neg h0] at hm
    go_enter Tryz.func57, Tryz.ntmps57
    go_wp2_with fail
    go_ret
    exact ⟨by first | rfl | (rw [hm]; rfl), rfl⟩
set_option maxRecDepth 100000 in
set_option maxHeartbeats 1000000 in
theorem signed_calls (x : Int) (w : World) (hx : -9223372036854775808 ≤ x ∧ x ≤ 9223372036854775807) :
    Calls Tryz.prog 58 #[.int .i64 x, .int .i64 32] w fun e w' => e = .returned (.int .i64 (wrap32 x)) ∧ w = w' := by
  go_enter Tryz.func58, Tryz.ntmps58
  go_wp2_with fail
  go_loopw [5, 6] (fun m i wr => ∃ k : Nat, k ≤ 32 ∧ i = .int .i64 k ∧ m = .int .i64 ((2 : Int) ^ k) ∧ w = wr) (fun m i _ => 32 - (intOf i).toNat)
  case atStart => exact ⟨0, by omega, rfl, rfl, rfl⟩
  case round =>
    obtain ⟨k, hk, rfl, rfl, rfl⟩ := hrel
    by_cases hlt : k < 32
    · have hp : (2 : Int) ^ k ≤ 2147483648 := by
        have : (2 : Int) ^ k ≤ 2 ^ 31 := by exact_mod_cast Nat.pow_le_pow_right (by omega : 1 ≤ 2) (by omega : k ≤ 31)
        simpa using this
      have hq : 0 < (2 : Int) ^ k := Int.pow_pos (by omega)
      have hs : (2 : Int) * 2 ^ k = 2 ^ (k + 1) := by rw [Int.pow_succ, Int.mul_comm]
      generalize hP : (2 : Int) ^ k = p at *
      go_wp2_with fail
      go_roundw
      case rel => exact ⟨k + 1, by omega, by go_num, by first | rfl | rw [hs], by trivial⟩
      case measure => simp [intOf]; omega
    · obtain rfl : k = 32 := by omega
      go_wp2_with fail
      refine (mod_calls x 4294967296 _ hx (by omega)).mono ?_
      rintro e w' ⟨rfl, rfl⟩
      by_cases hg : 2147483648 ≤ x % 4294967296
      · have hw : wrap32 x = x % 4294967296 - 4294967296 := by unfold wrap32; omega
        have hb : x % 4294967296 < 4294967296 := by omega
        generalize x % 4294967296 = y at *
        go_wp2
        go_ret
        exact ⟨by rw [hw]; rfl, rfl⟩
      · have hw : wrap32 x = x % 4294967296 := by unfold wrap32; omega
        have hb : 0 ≤ x % 4294967296 := by omega
        generalize x % 4294967296 = y at *
        go_wp2
        go_ret
        exact ⟨by rw [hw]; rfl, rfl⟩
set_option maxRecDepth 100000 in
set_option maxHeartbeats 1000000 in
theorem low_calls (x : Int) (w : World) (hx : -9223372036854775808 ≤ x ∧ x ≤ 9223372036854775807) :
    Calls Tryz.prog 28 #[.int .i64 x] w fun e w' => e = .returned (.int .i32 (wrap32 x)) ∧ w = w' := by
  have hb : -2147483648 ≤ wrap32 x ∧ wrap32 x ≤ 2147483647 := by unfold wrap32; omega
  go_enter Tryz.func28, Tryz.ntmps28
  go_wp2_with fail
  refine (signed_calls x _ hx).mono ?_
  rintro e w' ⟨rfl, rfl⟩
  generalize hy : wrap32 x = y at *
  go_wp2
  go_ret
  refine ⟨?_, rfl⟩
  first | rfl | (rw [hy]; rfl)
set_option maxRecDepth 100000 in
set_option maxHeartbeats 1000000 in
theorem plain_calls (x : Int) (w : World) (hx : -2147483648 ≤ x ∧ x ≤ 2147483647) :
    Calls Tryz.prog 27 #[.int .i32 x] w fun e w' => e = .returned (.int .i64 (x % 4294967296)) ∧ w = w' := by
  go_enter Tryz.func27, Tryz.ntmps27
  go_wp2_with fail
  refine (mod_calls x 4294967296 _ (by omega) (by omega)).mono ?_
  rintro e w' ⟨rfl, rfl⟩
  go_wp2
  go_ret
  exact ⟨rfl, rfl⟩
end Go.Proofs.YtkfkoobdmnndcaaGreat
