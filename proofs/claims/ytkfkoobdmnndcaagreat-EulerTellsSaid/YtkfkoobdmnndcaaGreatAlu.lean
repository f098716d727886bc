/- alu.Do at each operation. -/
import Derived.Test.YtkfkoobdmnndcaaGreatNum2
namespace Go.Proofs.YtkfkoobdmnndcaaGreat
open Go.RowKit Go.Deep
set_option linter.unusedVariables false
def addI (a b : Int) : Int := wrap32 (a + b)
def subI (a b : Int) : Int := wrap32 (a - b)
def andI (a b : Int) : Int := bits BinOp.and IntKind.i32 a b
def orI (a b : Int) : Int := bits BinOp.or IntKind.i32 a b
def xorI (a b : Int) : Int := bits BinOp.xor IntKind.i32 a b
def bicI (a b : Int) : Int := bits BinOp.andNot IntKind.i32 a b
abbrev In32 (a : Int) : Prop := -2147483648 ≤ a ∧ a ≤ 2147483647

set_option maxRecDepth 100000 in
set_option maxHeartbeats 1000000 in
theorem do_add (a b : Int) (w : World) (ha : In32 a) (hb : In32 b) : Calls Tryz.prog 146 #[.int .i64 1, .int .i32 a, .int .i32 b] w fun e w' => e = .returned (.tuple #[.int .i32 (addI a b), .bool true]) ∧ Chg w w' [] := by
  have HC := hide (Chg.refl w [])
  go_enter Tryz.func146, Tryz.ntmps146
  go_wp2
  go_ret2
  exact ⟨rfl, HC.out⟩

set_option maxRecDepth 100000 in
set_option maxHeartbeats 1000000 in
theorem do_sub (a b : Int) (w : World) (ha : In32 a) (hb : In32 b) : Calls Tryz.prog 146 #[.int .i64 2, .int .i32 a, .int .i32 b] w fun e w' => e = .returned (.tuple #[.int .i32 (subI a b), .bool true]) ∧ Chg w w' [] := by
  have HC := hide (Chg.refl w [])
  go_enter Tryz.func146, Tryz.ntmps146
  go_wp2
  go_ret2
  exact ⟨rfl, HC.out⟩

set_option maxRecDepth 100000 in
set_option maxHeartbeats 1000000 in
theorem do_adds (a b : Int) (w : World) (ha : In32 a) (hb : In32 b) : Calls Tryz.prog 146 #[.int .i64 3, .int .i32 a, .int .i32 b] w fun e w' => e = .returned (.tuple #[.int .i32 (addsI a b), .bool true]) ∧ Chg w w' [] := by
  go_enter Tryz.func146, Tryz.ntmps146
  go_wp2_with fail
  refine (sadd_calls a b _ ha hb).mono ?_
  rintro e w1 ⟨rfl, hc⟩
  have HC := hide hc
  clear hc
  go_wp2
  go_ret2
  exact ⟨rfl, HC.out⟩

set_option maxRecDepth 100000 in
set_option maxHeartbeats 1000000 in
theorem do_subs (a b : Int) (w : World) (ha : In32 a) (hb : In32 b) : Calls Tryz.prog 146 #[.int .i64 4, .int .i32 a, .int .i32 b] w fun e w' => e = .returned (.tuple #[.int .i32 (subsI a b), .bool true]) ∧ Chg w w' [] := by
  go_enter Tryz.func146, Tryz.ntmps146
  go_wp2_with fail
  refine (ssub_calls a b _ ha hb).mono ?_
  rintro e w1 ⟨rfl, hc⟩
  have HC := hide hc
  clear hc
  go_wp2
  go_ret2
  exact ⟨rfl, HC.out⟩

set_option maxRecDepth 100000 in
set_option maxHeartbeats 1000000 in
theorem do_and (a b : Int) (w : World) (ha : In32 a) (hb : In32 b) : Calls Tryz.prog 146 #[.int .i64 5, .int .i32 a, .int .i32 b] w fun e w' => e = .returned (.tuple #[.int .i32 (andI a b), .bool true]) ∧ Chg w w' [] := by
  have HC := hide (Chg.refl w [])
  go_enter Tryz.func146, Tryz.ntmps146
  go_wp2
  go_ret2
  exact ⟨rfl, HC.out⟩

set_option maxRecDepth 100000 in
set_option maxHeartbeats 1000000 in
theorem do_or (a b : Int) (w : World) (ha : In32 a) (hb : In32 b) : Calls Tryz.prog 146 #[.int .i64 6, .int .i32 a, .int .i32 b] w fun e w' => e = .returned (.tuple #[.int .i32 (orI a b), .bool true]) ∧ Chg w w' [] := by
  have HC := hide (Chg.refl w [])
  go_enter Tryz.func146, Tryz.ntmps146
  go_wp2
  go_ret2
  exact ⟨rfl, HC.out⟩

set_option maxRecDepth 100000 in
set_option maxHeartbeats 1000000 in
theorem do_xor (a b : Int) (w : World) (ha : In32 a) (hb : In32 b) : Calls Tryz.prog 146 #[.int .i64 7, .int .i32 a, .int .i32 b] w fun e w' => e = .returned (.tuple #[.int .i32 (xorI a b), .bool true]) ∧ Chg w w' [] := by
  have HC := hide (Chg.refl w [])
  go_enter Tryz.func146, Tryz.ntmps146
  go_wp2
  go_ret2
  exact ⟨rfl, HC.out⟩

set_option maxRecDepth 100000 in
set_option maxHeartbeats 1000000 in
theorem do_bic (a b : Int) (w : World) (ha : In32 a) (hb : In32 b) : Calls Tryz.prog 146 #[.int .i64 8, .int .i32 a, .int .i32 b] w fun e w' => e = .returned (.tuple #[.int .i32 (bicI a b), .bool true]) ∧ Chg w w' [] := by
  have HC := hide (Chg.refl w [])
  go_enter Tryz.func146, Tryz.ntmps146
  go_wp2
  go_ret2
  exact ⟨rfl, HC.out⟩

set_option maxRecDepth 100000 in
set_option maxHeartbeats 1000000 in
theorem do_shl (a b : Int) (w : World) (ha : In32 a) (hb : In32 b) : Calls Tryz.prog 146 #[.int .i64 9, .int .i32 a, .int .i32 b] w fun e w' => e = .returned (.tuple #[.int .i32 (shlI a b), .bool true]) ∧ Chg w w' [] := by
  go_enter Tryz.func146, Tryz.ntmps146
  go_wp2_with fail
  refine (shl_calls a b _).mono ?_
  rintro e w1 ⟨rfl, hc⟩
  have HC := hide hc
  clear hc
  go_wp2
  go_ret2
  exact ⟨rfl, HC.out⟩

set_option maxRecDepth 100000 in
set_option maxHeartbeats 1000000 in
theorem do_shr (a b : Int) (w : World) (ha : In32 a) (hb : In32 b) : Calls Tryz.prog 146 #[.int .i64 10, .int .i32 a, .int .i32 b] w fun e w' => e = .returned (.tuple #[.int .i32 (shrI a b), .bool true]) ∧ Chg w w' [] := by
  go_enter Tryz.func146, Tryz.ntmps146
  go_wp2_with fail
  refine (shr_calls a b _).mono ?_
  rintro e w1 ⟨rfl, hc⟩
  have HC := hide hc
  clear hc
  go_wp2
  go_ret2
  exact ⟨rfl, HC.out⟩

set_option maxRecDepth 100000 in
set_option maxHeartbeats 1000000 in
theorem do_sar (a b : Int) (w : World) (ha : In32 a) (hb : In32 b) : Calls Tryz.prog 146 #[.int .i64 11, .int .i32 a, .int .i32 b] w fun e w' => e = .returned (.tuple #[.int .i32 (sarI a b), .bool true]) ∧ Chg w w' [] := by
  go_enter Tryz.func146, Tryz.ntmps146
  go_wp2_with fail
  refine (sar_calls a b _).mono ?_
  rintro e w1 ⟨rfl, hc⟩
  have HC := hide hc
  clear hc
  go_wp2
  go_ret2
  exact ⟨rfl, HC.out⟩

set_option maxRecDepth 100000 in
set_option maxHeartbeats 1000000 in
theorem do_slt (a b : Int) (w : World) (ha : In32 a) (hb : In32 b) : Calls Tryz.prog 146 #[.int .i64 13, .int .i32 a, .int .i32 b] w fun e w' => e = .returned (.tuple #[.int .i32 (ltI a b), .bool true]) ∧ Chg w w' [] := by
  have HC := hide (Chg.refl w [])
  go_enter Tryz.func146, Tryz.ntmps146
  go_wp2_with fail
  refine (less_calls a b _).mono ?_
  rintro e w1 ⟨rfl, rfl⟩
  go_wp2
  go_ret2
  exact ⟨rfl, HC.out⟩

set_option maxRecDepth 100000 in
set_option maxHeartbeats 1000000 in
theorem do_sltu (a b : Int) (w : World) (ha : In32 a) (hb : In32 b) : Calls Tryz.prog 146 #[.int .i64 14, .int .i32 a, .int .i32 b] w fun e w' => e = .returned (.tuple #[.int .i32 (ltuI a b), .bool true]) ∧ Chg w w' [] := by
  have HC := hide (Chg.refl w [])
  go_enter Tryz.func146, Tryz.ntmps146
  go_wp2_with fail
  refine (under_calls a b _).mono ?_
  rintro e w1 ⟨rfl, rfl⟩
  go_wp2
  go_ret2
  exact ⟨rfl, HC.out⟩

set_option maxRecDepth 100000 in
set_option maxHeartbeats 1000000 in
theorem do_seq (a b : Int) (w : World) (ha : In32 a) (hb : In32 b) : Calls Tryz.prog 146 #[.int .i64 15, .int .i32 a, .int .i32 b] w fun e w' => e = .returned (.tuple #[.int .i32 (eqI a b), .bool true]) ∧ Chg w w' [] := by
  have HC := hide (Chg.refl w [])
  go_enter Tryz.func146, Tryz.ntmps146
  go_wp2_with fail
  refine (same_calls a b _).mono ?_
  rintro e w1 ⟨rfl, rfl⟩
  go_wp2
  go_ret2
  exact ⟨rfl, HC.out⟩

set_option maxRecDepth 100000 in
set_option maxHeartbeats 1000000 in
theorem product_mul (a b : Int) (w : World) (ha : In32 a) (hb : In32 b) : Calls Tryz.prog 156 #[.int .i64 18, .int .i32 a, .int .i32 b] w fun e w' => e = .returned (.tuple #[.int .i32 (mulI a b), .bool true]) ∧ Chg w w' [] := by
  go_enter Tryz.func156, Tryz.ntmps156
  go_wp2_with fail
  refine (mull_calls a b _ ha hb).mono ?_
  rintro e w1 ⟨rfl, hc⟩
  have HC := hide hc
  clear hc
  go_wp2
  go_ret2
  exact ⟨rfl, HC.out⟩

set_option maxRecDepth 100000 in
set_option maxHeartbeats 1000000 in
theorem do_mul (a b : Int) (w : World) (ha : In32 a) (hb : In32 b) : Calls Tryz.prog 146 #[.int .i64 18, .int .i32 a, .int .i32 b] w fun e w' => e = .returned (.tuple #[.int .i32 (mulI a b), .bool true]) ∧ Chg w w' [] := by
  go_enter Tryz.func146, Tryz.ntmps146
  go_wp2_with fail
  refine (product_mul a b _ ha hb).mono ?_
  rintro e w1 ⟨rfl, hc⟩
  have HC := hide hc
  clear hc
  go_wp2
  go_ret2
  exact ⟨rfl, HC.out⟩

set_option maxRecDepth 100000 in
set_option maxHeartbeats 1000000 in
theorem product_mulq (a b : Int) (w : World) (ha : In32 a) (hb : In32 b) : Calls Tryz.prog 156 #[.int .i64 20, .int .i32 a, .int .i32 b] w fun e w' => e = .returned (.tuple #[.int .i32 (mulqI a b), .bool true]) ∧ Chg w w' [] := by
  go_enter Tryz.func156, Tryz.ntmps156
  go_wp2_with fail
  refine (mulq_calls a b _ ha hb).mono ?_
  rintro e w1 ⟨rfl, hc⟩
  have HC := hide hc
  clear hc
  go_wp2
  go_ret2
  exact ⟨rfl, HC.out⟩

set_option maxRecDepth 100000 in
set_option maxHeartbeats 1000000 in
theorem do_mulq (a b : Int) (w : World) (ha : In32 a) (hb : In32 b) : Calls Tryz.prog 146 #[.int .i64 20, .int .i32 a, .int .i32 b] w fun e w' => e = .returned (.tuple #[.int .i32 (mulqI a b), .bool true]) ∧ Chg w w' [] := by
  go_enter Tryz.func146, Tryz.ntmps146
  go_wp2_with fail
  refine (product_mulq a b _ ha hb).mono ?_
  rintro e w1 ⟨rfl, hc⟩
  have HC := hide hc
  clear hc
  go_wp2
  go_ret2
  exact ⟨rfl, HC.out⟩

set_option maxRecDepth 100000 in
set_option maxHeartbeats 1000000 in
theorem single_clz (a : Int) (w : World) (ha : In32 a) : Calls Tryz.prog 178 #[.int .i32 a] w fun e w' => e = .returned (.int .i32 (clzI a)) ∧ Chg w w' [] := by
  have HC := hide (Chg.refl w [])
  go_enter Tryz.func178, Tryz.ntmps178
  go_wp2_with fail
  refine (clz_calls a _ ha).mono ?_
  rintro e w1 ⟨rfl, rfl⟩
  go_wp2
  go_ret
  exact ⟨rfl, HC.out⟩

set_option maxRecDepth 100000 in
set_option maxHeartbeats 1000000 in
theorem apply_clz (a : Int) (w : World) (ha : In32 a) : Calls Tryz.prog 177 #[.func (.func 178) #[] #[], .int .i32 a] w fun e w' => e = .returned (.tuple #[.int .i32 (clzI a), .bool true]) ∧ Chg w w' [] := by
  go_enter Tryz.func177, Tryz.ntmps177
  go_wp2_with fail
  refine (single_clz a _ ha).mono ?_
  rintro e w1 ⟨rfl, hc⟩
  have HC := hide hc
  clear hc
  go_wp2
  go_ret2
  exact ⟨rfl, HC.out⟩

set_option maxRecDepth 100000 in
set_option maxHeartbeats 1000000 in
theorem alone_clz (a : Int) (w : World) (ha : In32 a) : Calls Tryz.prog 170 #[.int .i64 24, .int .i32 a] w fun e w' => e = .returned (.tuple #[.int .i32 (clzI a), .bool true]) ∧ Chg w w' [] := by
  go_enter Tryz.func170, Tryz.ntmps170
  go_wp2_with fail
  refine (apply_clz a _ ha).mono ?_
  rintro e w1 ⟨rfl, hc⟩
  have HC := hide hc
  clear hc
  go_wp2
  go_ret2
  exact ⟨rfl, HC.out⟩

set_option maxRecDepth 100000 in
set_option maxHeartbeats 1000000 in
theorem product_clz (a b : Int) (w : World) (ha : In32 a) (hb : In32 b) : Calls Tryz.prog 156 #[.int .i64 24, .int .i32 a, .int .i32 b] w fun e w' => e = .returned (.tuple #[.int .i32 (clzI a), .bool true]) ∧ Chg w w' [] := by
  go_enter Tryz.func156, Tryz.ntmps156
  go_wp2_with fail
  refine (alone_clz a _ ha).mono ?_
  rintro e w1 ⟨rfl, hc⟩
  have HC := hide hc
  clear hc
  go_wp2
  go_ret2
  exact ⟨rfl, HC.out⟩

set_option maxRecDepth 100000 in
set_option maxHeartbeats 1000000 in
theorem do_clz (a b : Int) (w : World) (ha : In32 a) (hb : In32 b) : Calls Tryz.prog 146 #[.int .i64 24, .int .i32 a, .int .i32 b] w fun e w' => e = .returned (.tuple #[.int .i32 (clzI a), .bool true]) ∧ Chg w w' [] := by
  go_enter Tryz.func146, Tryz.ntmps146
  go_wp2_with fail
  refine (product_clz a b _ ha hb).mono ?_
  rintro e w1 ⟨rfl, hc⟩
  have HC := hide hc
  clear hc
  go_wp2
  go_ret2
  exact ⟨rfl, HC.out⟩

set_option maxRecDepth 100000 in
set_option maxHeartbeats 1000000 in
theorem single_neg (a : Int) (w : World) (ha : In32 a) : Calls Tryz.prog 179 #[.int .i32 a] w fun e w' => e = .returned (.int .i32 (negI a)) ∧ Chg w w' [] := by
  go_enter Tryz.func179, Tryz.ntmps179
  go_wp2_with fail
  refine (sneg_calls a _ ha).mono ?_
  rintro e w1 ⟨rfl, hc⟩
  have HC := hide hc
  clear hc
  go_wp2
  go_ret
  exact ⟨rfl, HC.out⟩

set_option maxRecDepth 100000 in
set_option maxHeartbeats 1000000 in
theorem apply_neg (a : Int) (w : World) (ha : In32 a) : Calls Tryz.prog 177 #[.func (.func 179) #[] #[], .int .i32 a] w fun e w' => e = .returned (.tuple #[.int .i32 (negI a), .bool true]) ∧ Chg w w' [] := by
  go_enter Tryz.func177, Tryz.ntmps177
  go_wp2_with fail
  refine (single_neg a _ ha).mono ?_
  rintro e w1 ⟨rfl, hc⟩
  have HC := hide hc
  clear hc
  go_wp2
  go_ret2
  exact ⟨rfl, HC.out⟩

set_option maxRecDepth 100000 in
set_option maxHeartbeats 1000000 in
theorem alone_neg (a : Int) (w : World) (ha : In32 a) : Calls Tryz.prog 170 #[.int .i64 25, .int .i32 a] w fun e w' => e = .returned (.tuple #[.int .i32 (negI a), .bool true]) ∧ Chg w w' [] := by
  go_enter Tryz.func170, Tryz.ntmps170
  go_wp2_with fail
  refine (apply_neg a _ ha).mono ?_
  rintro e w1 ⟨rfl, hc⟩
  have HC := hide hc
  clear hc
  go_wp2
  go_ret2
  exact ⟨rfl, HC.out⟩

set_option maxRecDepth 100000 in
set_option maxHeartbeats 1000000 in
theorem product_neg (a b : Int) (w : World) (ha : In32 a) (hb : In32 b) : Calls Tryz.prog 156 #[.int .i64 25, .int .i32 a, .int .i32 b] w fun e w' => e = .returned (.tuple #[.int .i32 (negI a), .bool true]) ∧ Chg w w' [] := by
  go_enter Tryz.func156, Tryz.ntmps156
  go_wp2_with fail
  refine (alone_neg a _ ha).mono ?_
  rintro e w1 ⟨rfl, hc⟩
  have HC := hide hc
  clear hc
  go_wp2
  go_ret2
  exact ⟨rfl, HC.out⟩

set_option maxRecDepth 100000 in
set_option maxHeartbeats 1000000 in
theorem do_neg (a b : Int) (w : World) (ha : In32 a) (hb : In32 b) : Calls Tryz.prog 146 #[.int .i64 25, .int .i32 a, .int .i32 b] w fun e w' => e = .returned (.tuple #[.int .i32 (negI a), .bool true]) ∧ Chg w w' [] := by
  go_enter Tryz.func146, Tryz.ntmps146
  go_wp2_with fail
  refine (product_neg a b _ ha hb).mono ?_
  rintro e w1 ⟨rfl, hc⟩
  have HC := hide hc
  clear hc
  go_wp2
  go_ret2
  exact ⟨rfl, HC.out⟩

set_option maxRecDepth 100000 in
set_option maxHeartbeats 1000000 in
theorem single_abs (a : Int) (w : World) (ha : In32 a) : Calls Tryz.prog 180 #[.int .i32 a] w fun e w' => e = .returned (.int .i32 (absI a)) ∧ Chg w w' [] := by
  go_enter Tryz.func180, Tryz.ntmps180
  go_wp2_with fail
  refine (sabs_calls a _ ha).mono ?_
  rintro e w1 ⟨rfl, hc⟩
  have HC := hide hc
  clear hc
  go_wp2
  go_ret
  exact ⟨rfl, HC.out⟩

set_option maxRecDepth 100000 in
set_option maxHeartbeats 1000000 in
theorem apply_abs (a : Int) (w : World) (ha : In32 a) : Calls Tryz.prog 177 #[.func (.func 180) #[] #[], .int .i32 a] w fun e w' => e = .returned (.tuple #[.int .i32 (absI a), .bool true]) ∧ Chg w w' [] := by
  go_enter Tryz.func177, Tryz.ntmps177
  go_wp2_with fail
  refine (single_abs a _ ha).mono ?_
  rintro e w1 ⟨rfl, hc⟩
  have HC := hide hc
  clear hc
  go_wp2
  go_ret2
  exact ⟨rfl, HC.out⟩

set_option maxRecDepth 100000 in
set_option maxHeartbeats 1000000 in
theorem alone_abs (a : Int) (w : World) (ha : In32 a) : Calls Tryz.prog 170 #[.int .i64 26, .int .i32 a] w fun e w' => e = .returned (.tuple #[.int .i32 (absI a), .bool true]) ∧ Chg w w' [] := by
  go_enter Tryz.func170, Tryz.ntmps170
  go_wp2_with fail
  refine (apply_abs a _ ha).mono ?_
  rintro e w1 ⟨rfl, hc⟩
  have HC := hide hc
  clear hc
  go_wp2
  go_ret2
  exact ⟨rfl, HC.out⟩

set_option maxRecDepth 100000 in
set_option maxHeartbeats 1000000 in
theorem product_abs (a b : Int) (w : World) (ha : In32 a) (hb : In32 b) : Calls Tryz.prog 156 #[.int .i64 26, .int .i32 a, .int .i32 b] w fun e w' => e = .returned (.tuple #[.int .i32 (absI a), .bool true]) ∧ Chg w w' [] := by
  go_enter Tryz.func156, Tryz.ntmps156
  go_wp2_with fail
  refine (alone_abs a _ ha).mono ?_
  rintro e w1 ⟨rfl, hc⟩
  have HC := hide hc
  clear hc
  go_wp2
  go_ret2
  exact ⟨rfl, HC.out⟩

set_option maxRecDepth 100000 in
set_option maxHeartbeats 1000000 in
theorem do_abs (a b : Int) (w : World) (ha : In32 a) (hb : In32 b) : Calls Tryz.prog 146 #[.int .i64 26, .int .i32 a, .int .i32 b] w fun e w' => e = .returned (.tuple #[.int .i32 (absI a), .bool true]) ∧ Chg w w' [] := by
  go_enter Tryz.func146, Tryz.ntmps146
  go_wp2_with fail
  refine (product_abs a b _ ha hb).mono ?_
  rintro e w1 ⟨rfl, hc⟩
  have HC := hide hc
  clear hc
  go_wp2
  go_ret2
  exact ⟨rfl, HC.out⟩

set_option maxRecDepth 100000 in
set_option maxHeartbeats 1000000 in
theorem single_sign (a : Int) (w : World) (ha : In32 a) : Calls Tryz.prog 182 #[.int .i32 a] w fun e w' => e = .returned (.int .i32 (signI a)) ∧ Chg w w' [] := by
  have HC := hide (Chg.refl w [])
  go_enter Tryz.func182, Tryz.ntmps182
  go_wp2_with fail
  refine (sign_calls a _).mono ?_
  rintro e w1 ⟨rfl, rfl⟩
  go_wp2
  go_ret
  exact ⟨rfl, HC.out⟩

set_option maxRecDepth 100000 in
set_option maxHeartbeats 1000000 in
theorem apply_sign (a : Int) (w : World) (ha : In32 a) : Calls Tryz.prog 177 #[.func (.func 182) #[] #[], .int .i32 a] w fun e w' => e = .returned (.tuple #[.int .i32 (signI a), .bool true]) ∧ Chg w w' [] := by
  go_enter Tryz.func177, Tryz.ntmps177
  go_wp2_with fail
  refine (single_sign a _ ha).mono ?_
  rintro e w1 ⟨rfl, hc⟩
  have HC := hide hc
  clear hc
  go_wp2
  go_ret2
  exact ⟨rfl, HC.out⟩

set_option maxRecDepth 100000 in
set_option maxHeartbeats 1000000 in
theorem alone_sign (a : Int) (w : World) (ha : In32 a) : Calls Tryz.prog 170 #[.int .i64 28, .int .i32 a] w fun e w' => e = .returned (.tuple #[.int .i32 (signI a), .bool true]) ∧ Chg w w' [] := by
  go_enter Tryz.func170, Tryz.ntmps170
  go_wp2_with fail
  refine (apply_sign a _ ha).mono ?_
  rintro e w1 ⟨rfl, hc⟩
  have HC := hide hc
  clear hc
  go_wp2
  go_ret2
  exact ⟨rfl, HC.out⟩

set_option maxRecDepth 100000 in
set_option maxHeartbeats 1000000 in
theorem product_sign (a b : Int) (w : World) (ha : In32 a) (hb : In32 b) : Calls Tryz.prog 156 #[.int .i64 28, .int .i32 a, .int .i32 b] w fun e w' => e = .returned (.tuple #[.int .i32 (signI a), .bool true]) ∧ Chg w w' [] := by
  go_enter Tryz.func156, Tryz.ntmps156
  go_wp2_with fail
  refine (alone_sign a _ ha).mono ?_
  rintro e w1 ⟨rfl, hc⟩
  have HC := hide hc
  clear hc
  go_wp2
  go_ret2
  exact ⟨rfl, HC.out⟩

set_option maxRecDepth 100000 in
set_option maxHeartbeats 1000000 in
theorem do_sign (a b : Int) (w : World) (ha : In32 a) (hb : In32 b) : Calls Tryz.prog 146 #[.int .i64 28, .int .i32 a, .int .i32 b] w fun e w' => e = .returned (.tuple #[.int .i32 (signI a), .bool true]) ∧ Chg w w' [] := by
  go_enter Tryz.func146, Tryz.ntmps146
  go_wp2_with fail
  refine (product_sign a b _ ha hb).mono ?_
  rintro e w1 ⟨rfl, hc⟩
  have HC := hide hc
  clear hc
  go_wp2
  go_ret2
  exact ⟨rfl, HC.out⟩

end Go.Proofs.YtkfkoobdmnndcaaGreat
