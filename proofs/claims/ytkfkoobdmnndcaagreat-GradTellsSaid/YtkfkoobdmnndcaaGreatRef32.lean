/- Norm, Accel, Mag as layer 32's reference says them. -/
import Derived.Test.YtkfkoobdmnndcaaGreatRef01
import Derived.Test.YtkfkoobdmnndcaaGreatMem
import Derived.Test.YtkfkoobdmnndcaaGreatWd
namespace Go.Proofs.YtkfkoobdmnndcaaGreat
open Go.RowKit Go.Deep
set_option linter.unusedVariables false
theorem wrap32_in (x : Int) : -2147483648 ≤ wrap32 x ∧ wrap32 x ≤ 2147483647 := by unfold wrap32; omega
theorem sq_ok (x : Int) (h : -2147483648 ≤ x ∧ x ≤ 2147483647) : -9223372036854775808 ≤ x * x ∧ x * x ≤ 9223372036854775807 := by
  have h1 : x * x = (x.natAbs * x.natAbs : Nat) := by rw [Int.natAbs_mul_self]
  have h2 : x.natAbs * x.natAbs ≤ 2147483648 * 2147483648 := Nat.mul_le_mul (by omega) (by omega)
  omega
/-- A square as a word, counted from 0 on. -/
def sqP (x : Int) : Int := wrap32 (x * x) % 4294967296
theorem sq_lo (x : Int) : 0 ≤ sqP x ∧ sqP x < 4294967296 := by unfold sqP; omega
def refNorm (a b c : Int) : Int := wrap32 (sqP a + sqP b + sqP c)
set_option maxRecDepth 100000 in
set_option maxHeartbeats 4000000 in
theorem refNorm_calls (a b c : Int) (w : World) (ha : -2147483648 ≤ a ∧ a ≤ 2147483647) (hb : -2147483648 ≤ b ∧ b ≤ 2147483647) (hc : -2147483648 ≤ c ∧ c ≤ 2147483647) :
    Calls Tryz.prog 7 #[.agg #[.int .i32 a, .int .i32 b, .int .i32 c]] w fun e w' => e = .returned (.int .i32 (refNorm a b c)) ∧ Chg w w' [] := by
  have k0 := Blk.new w 22 [.int .i32 a, .int .i32 b, .int .i32 c]
  have m0 := k0
  have g0_0 := m0.cell' (i := 0) rfl
  have g0_1 := m0.cell' (i := 1) rfl
  have g0_2 := m0.cell' (i := 2) rfl
  have HC := hide ((Chg.refl w []).alloc (.cells #[.int .i32 a, .int .i32 b, .int .i32 c] 22))
  clear k0
  have HR := hide m0
  clear m0
  go_enter Tryz.func7, Tryz.ntmps7
  go_wp2_with fail
  generalize hw5 : (w.alloc (.cells #[.int .i32 a, .int .i32 b, .int .i32 c] 22)) = w5 at *
  clear hw5
  go_loopw [3, 4] (fun n i wr => ∃ k : Nat, k ≤ 3 ∧ i = .int .i64 k ∧ n = .int .i64 ([0, sqP a, sqP a + sqP b, sqP a + sqP b + sqP c].getD k 0) ∧ Hid (Blk wr w.heap.size 22 [.int .i32 a, .int .i32 b, .int .i32 c]) ∧ Hid (Chg w wr [])) (fun _ i _ => 3 - (intOf i).toNat)
  case atStart => exact ⟨0, by omega, rfl, rfl, HR, HC⟩
  case round =>
    clear HR HC
    obtain ⟨k, hk, rfl, rfl, HB, HK⟩ := hrel
    have sa := sq_lo a
    have sb := sq_lo b
    have sc := sq_lo c
    rcases (by omega : k = 0 ∨ k = 1 ∨ k = 2 ∨ k = 3) with rfl | rfl | rfl | rfl
    · have x0 := HB.out.cell' (i := 0) rfl
      have hm := sq_ok a ha
      simp only [List.getD_cons_zero]
      have e1 : IntKind.i64.wrap a = a := by rw [IntKind.wrap_i64]; omega
      have e2 : IntKind.i64.wrap (a * a) = a * a := by rw [IntKind.wrap_i64]; omega
      go_wp2_with fail
      go_region_with (first | (go_at_call 28; refine (low_calls (a * a) _ hm).mono ?_; rintro e w9 ⟨rfl, rfl⟩) | (go_at_call 27; refine (plain_calls (wrap32 (a * a)) _ (wrap32_in _)).mono ?_; rintro e w9 ⟨rfl, rfl⟩))
      all_goals
        go_wp2
        go_roundw
        case rel => exact ⟨1, by omega, by go_num, by first | rfl | (simp [sqP]; done) | (simp [sqP]; omega), hide (HB.out.drew), hide (HK.out.drew)⟩
        case measure => simp [intOf]
    · have x0 := HB.out.cell' (i := 1) rfl
      have hm := sq_ok b hb
      simp only [List.getD_cons_zero, List.getD_cons_succ]
      have e1 : IntKind.i64.wrap b = b := by rw [IntKind.wrap_i64]; omega
      have e2 : IntKind.i64.wrap (b * b) = b * b := by rw [IntKind.wrap_i64]; omega
      go_wp2_with fail
      go_region_with (first | (go_at_call 28; refine (low_calls (b * b) _ hm).mono ?_; rintro e w9 ⟨rfl, rfl⟩) | (go_at_call 27; refine (plain_calls (wrap32 (b * b)) _ (wrap32_in _)).mono ?_; rintro e w9 ⟨rfl, rfl⟩))
      all_goals
        go_wp2
        go_roundw
        case rel => exact ⟨2, by omega, by go_num, by first | rfl | (simp [sqP]; done) | (simp [sqP]; omega), hide (HB.out.drew), hide (HK.out.drew)⟩
        case measure => simp [intOf]
    · have x0 := HB.out.cell' (i := 2) rfl
      have hm := sq_ok c hc
      simp only [List.getD_cons_zero, List.getD_cons_succ]
      have e1 : IntKind.i64.wrap c = c := by rw [IntKind.wrap_i64]; omega
      have e2 : IntKind.i64.wrap (c * c) = c * c := by rw [IntKind.wrap_i64]; omega
      go_wp2_with fail
      go_region_with (first | (go_at_call 28; refine (low_calls (c * c) _ hm).mono ?_; rintro e w9 ⟨rfl, rfl⟩) | (go_at_call 27; refine (plain_calls (wrap32 (c * c)) _ (wrap32_in _)).mono ?_; rintro e w9 ⟨rfl, rfl⟩))
      all_goals
        go_wp2
        go_roundw
        case rel => exact ⟨3, by omega, by go_num, by first | rfl | (simp [sqP]; done) | (simp [sqP]; omega), hide (HB.out.drew), hide (HK.out.drew)⟩
        case measure => simp [intOf]
    · simp only [List.getD_cons_zero, List.getD_cons_succ]
      go_wp2_with fail
      refine (low_calls (sqP a + sqP b + sqP c) _ (by omega)).mono ?_
      rintro e w9 ⟨rfl, rfl⟩
      have hw := wrap32_in (sqP a + sqP b + sqP c)
      go_wp2
      go_ret
      exact ⟨rfl, HK.out⟩
end Go.Proofs.YtkfkoobdmnndcaaGreat
