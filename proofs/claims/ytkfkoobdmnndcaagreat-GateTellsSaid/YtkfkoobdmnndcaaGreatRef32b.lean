/- Accel, Mag as layer 32's reference says them. -/
import Derived.Test.YtkfkoobdmnndcaaGreatRef32
namespace Go.Proofs.YtkfkoobdmnndcaaGreat
open Go.RowKit Go.Deep
set_option linter.unusedVariables false
/-- Whether the reference's norm lies within bounds. -/
def inside (lo hi a b c : Int) : Bool := decide (lo ≤ refNorm a b c % 4294967296) && decide (refNorm a b c % 4294967296 ≤ hi)
set_option maxRecDepth 100000 in
set_option maxHeartbeats 4000000 in
theorem within_calls (a b c lo hi : Int) (w : World) (ha : -2147483648 ≤ a ∧ a ≤ 2147483647) (hb : -2147483648 ≤ b ∧ b ≤ 2147483647) (hc : -2147483648 ≤ c ∧ c ≤ 2147483647) :
    Calls Tryz.prog 30 #[.agg #[.int .i32 a, .int .i32 b, .int .i32 c], .int .i64 lo, .int .i64 hi] w fun e w' => e = .returned (.bool (inside lo hi a b c)) ∧ Chg w w' [] := by
  have k0 := Blk.new w 22 [.int .i32 a, .int .i32 b, .int .i32 c]
  have m0 := k0
  have g0_0 := m0.cell' (i := 0) rfl
  have g0_1 := m0.cell' (i := 1) rfl
  have g0_2 := m0.cell' (i := 2) rfl
  have HC := hide ((Chg.refl w []).alloc (.cells #[.int .i32 a, .int .i32 b, .int .i32 c] 22))
  clear k0
  clear m0
  go_enter Tryz.func30, Tryz.ntmps30
  go_wp2_with fail
  generalize hw5 : (w.alloc (.cells #[.int .i32 a, .int .i32 b, .int .i32 c] 22)) = w5 at *
  clear hw5
  refine (refNorm_calls a b c _ ha hb hc).mono ?_
  rintro e w6 ⟨rfl, hx⟩
  have HC6 := hide (HC.out.trans hx (D := []) (by simp))
  clear hx
  go_wp2_with fail
  refine (plain_calls (refNorm a b c) _ (wrap32_in _)).mono ?_
  rintro e w7 ⟨rfl, rfl⟩
  generalize hp : refNorm a b c % 4294967296 = p at *
  by_cases h1 : lo ≤ p
  · have hres : inside lo hi a b c = decide (p ≤ hi) := by unfold inside; rw [hp]; simp [h1]
    go_wp2
    go_ret
    exact ⟨by first | rfl | (rw [hres]; rfl), HC6.out⟩
  · have hres : inside lo hi a b c = false := by unfold inside; rw [hp]; simp [h1]
    go_wp2
    go_ret
    exact ⟨by first | rfl | (rw [hres]; rfl), HC6.out⟩
set_option maxRecDepth 100000 in
set_option maxHeartbeats 4000000 in
theorem refAccel_calls (a b c : Int) (w : World) (ha : -2147483648 ≤ a ∧ a ≤ 2147483647) (hb : -2147483648 ≤ b ∧ b ≤ 2147483647) (hc : -2147483648 ≤ c ∧ c ≤ 2147483647) :
    Calls Tryz.prog 9 #[.agg #[.int .i32 a, .int .i32 b, .int .i32 c]] w fun e w' => e = .returned (.bool (inside 16777216 150994944 a b c)) ∧ Chg w w' [] := by
  have k0 := Blk.new w 22 [.int .i32 a, .int .i32 b, .int .i32 c]
  have m0 := k0
  have g0_0 := m0.cell' (i := 0) rfl
  have g0_1 := m0.cell' (i := 1) rfl
  have g0_2 := m0.cell' (i := 2) rfl
  have HC := hide ((Chg.refl w []).alloc (.cells #[.int .i32 a, .int .i32 b, .int .i32 c] 22))
  clear k0
  clear m0
  go_enter Tryz.func9, Tryz.ntmps9
  go_wp2_with fail
  generalize hw5 : (w.alloc (.cells #[.int .i32 a, .int .i32 b, .int .i32 c] 22)) = w5 at *
  clear hw5
  refine (within_calls a b c 16777216 150994944 _ ha hb hc).mono ?_
  rintro e w6 ⟨rfl, hx⟩
  have HC6 := hide (HC.out.trans hx (D := []) (by simp))
  go_wp2
  go_ret
  exact ⟨rfl, HC6.out⟩
set_option maxRecDepth 100000 in
set_option maxHeartbeats 4000000 in
theorem refMag_calls (a b c : Int) (w : World) (ha : -2147483648 ≤ a ∧ a ≤ 2147483647) (hb : -2147483648 ≤ b ∧ b ≤ 2147483647) (hc : -2147483648 ≤ c ∧ c ≤ 2147483647) :
    Calls Tryz.prog 11 #[.agg #[.int .i32 a, .int .i32 b, .int .i32 c]] w fun e w' => e = .returned (.bool (inside 1000000 400000000 a b c)) ∧ Chg w w' [] := by
  have k0 := Blk.new w 22 [.int .i32 a, .int .i32 b, .int .i32 c]
  have m0 := k0
  have g0_0 := m0.cell' (i := 0) rfl
  have g0_1 := m0.cell' (i := 1) rfl
  have g0_2 := m0.cell' (i := 2) rfl
  have HC := hide ((Chg.refl w []).alloc (.cells #[.int .i32 a, .int .i32 b, .int .i32 c] 22))
  clear k0
  clear m0
  go_enter Tryz.func11, Tryz.ntmps11
  go_wp2_with fail
  generalize hw5 : (w.alloc (.cells #[.int .i32 a, .int .i32 b, .int .i32 c] 22)) = w5 at *
  clear hw5
  refine (within_calls a b c 1000000 400000000 _ ha hb hc).mono ?_
  rintro e w6 ⟨rfl, hx⟩
  have HC6 := hide (HC.out.trans hx (D := []) (by simp))
  go_wp2
  go_ret
  exact ⟨rfl, HC6.out⟩
end Go.Proofs.YtkfkoobdmnndcaaGreat
