/- A number without whole turns: layer 35's `turned`. -/
import Derived.Test.YtbmfcedndbgpoaaGreatKeep
namespace Go.Proofs.YtbmfcedndbgpoaaGreat
open Go.RowKit Go.Deep
set_option linter.unusedVariables false
def turnedI (x : Int) : Int := if 1686629713 < x then x - 3373259426 * ((x - 1686629713 + 3373259425) / 3373259426) else if x < -1686629713 then x + 3373259426 * ((-1686629713 - x + 3373259425) / 3373259426) else x
set_option maxRecDepth 100000 in
set_option maxHeartbeats 1000000 in
theorem turned_calls (x : Int) (hx : -9223372036854775808 ≤ x ∧ x ≤ 9223372036854775807) (w : World) : Calls Tryz.prog 27 #[.int .i64 x] w fun e w' => e = .returned (.int .i64 (turnedI x)) ∧ w = w' := by
  go_enter Tryz.func27, Tryz.ntmps27
  go_wp2_with fail
  go_loopw [0] (fun v wr => ∃ y k : Int, v = .int .i64 y ∧ (y ≤ x - 3373259426 * k ∧ x - 3373259426 * k ≤ y) ∧ 0 ≤ k ∧ (k = 0 ∨ -1686629713 < y) ∧ w = wr) (fun v _ => (intOf v).toNat)
  case atStart => exact ⟨x, 0, rfl, ⟨by omega, by omega⟩, by omega, .inl rfl, rfl⟩
  case round =>
    obtain ⟨y, k, rfl, hy, hk, hlow, rfl⟩ := hrel
    by_cases h : 1686629713 < y
    · have hb : y ≤ 9223372036854775807 := by omega
      go_wp2_with fail
      go_roundw
      case rel => exact ⟨y - 3373259426, k + 1, by go_num, ⟨by omega, by omega⟩, by omega, .inr (by omega), by trivial⟩
      case measure => simp [intOf]; omega
    · go_wp2_with fail
      go_loopw [0] (fun v wr => ∃ z j : Int, v = .int .i64 z ∧ (z ≤ y + 3373259426 * j ∧ y + 3373259426 * j ≤ z) ∧ 0 ≤ j ∧ (j = 0 ∨ z < 1686629713) ∧ w = wr) (fun v _ => (-(intOf v)).toNat)
      case atStart => exact ⟨y, 0, rfl, ⟨by omega, by omega⟩, by omega, .inl rfl, rfl⟩
      case round =>
        obtain ⟨z, j, rfl, hz, hj, hup, rfl⟩ := hrel
        by_cases h2 : z < -1686629713
        · have hb : -9223372036854775808 ≤ z := by omega
          go_wp2_with fail
          go_roundw
          case rel => exact ⟨z + 3373259426, j + 1, by go_num, ⟨by omega, by omega⟩, by omega, .inr (by omega), by trivial⟩
          case measure => simp [intOf]; omega
        · go_wp2_with fail
          go_ret
          have e : turnedI x = z := by
            unfold turnedI
            split
            · omega
            · split <;> omega
          exact ⟨by rw [e]; rfl, rfl⟩
end Go.Proofs.YtbmfcedndbgpoaaGreat
