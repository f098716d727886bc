/- What each operation reckons is a word. -/
import Derived.Test.YtkfkoobdmnndcaaGreatMill2
namespace Go.Proofs.YtkfkoobdmnndcaaGreat
open Go.RowKit Go.Deep
set_option linter.unusedVariables false
theorem in_wrap (n : Int) : In32 (wrap32 n) := by unfold In32 wrap32; omega
theorem in_sat (n : Int) : In32 (satI n) := by unfold In32 satI; omega
theorem in_add (a b : Int) : In32 (addI a b) := in_wrap _
theorem in_sub (a b : Int) : In32 (subI a b) := in_wrap _
theorem in_adds (a b : Int) : In32 (addsI a b) := in_sat _
theorem in_subs (a b : Int) : In32 (subsI a b) := in_sat _
theorem wrap_i32' (n : Int) : IntKind.i32.wrap n = wrap32 n := by rw [IntKind.wrap_i32]; unfold wrap32; rfl
theorem in_and (a b : Int) : In32 (andI a b) := by
  show In32 (IntKind.i32.wrap _); rw [wrap_i32']; exact in_wrap _
theorem in_or (a b : Int) : In32 (orI a b) := by
  show In32 (IntKind.i32.wrap _); rw [wrap_i32']; exact in_wrap _
theorem in_xor (a b : Int) : In32 (xorI a b) := by
  show In32 (IntKind.i32.wrap _); rw [wrap_i32']; exact in_wrap _
theorem in_bic (a b : Int) : In32 (bicI a b) := by
  show In32 (IntKind.i32.wrap _); rw [wrap_i32']; exact in_wrap _
theorem in_shl (a b : Int) : In32 (shlI a b) := in_wrap _
theorem in_shr (a b : Int) : In32 (shrI a b) := in_wrap _
theorem in_sar (a b : Int) (h : In32 a) : In32 (sarI a b) := by
  unfold In32 sarI at *
  have h2 : (1 : Int) ≤ 2 ^ sh b := by
    have := Nat.one_le_two_pow (n := sh b)
    exact_mod_cast this
  generalize (2 : Int) ^ sh b = d at *
  constructor
  · rw [Int.le_ediv_iff_mul_le (by omega)]
    have : (2147483648 : Int) * 1 ≤ 2147483648 * d := Int.mul_le_mul_of_nonneg_left h2 (by omega)
    omega
  · exact Int.ediv_le_of_le_mul (by omega) (by
      have : (2147483647 : Int) * 1 ≤ 2147483647 * d := Int.mul_le_mul_of_nonneg_left h2 (by omega)
      omega)
theorem in_lt (a b : Int) : In32 (ltI a b) := by unfold In32 ltI; split <;> omega
theorem in_ltu (a b : Int) : In32 (ltuI a b) := by unfold In32 ltuI; split <;> omega
theorem in_eq (a b : Int) : In32 (eqI a b) := by unfold In32 eqI; split <;> omega
theorem in_mul (a b : Int) : In32 (mulI a b) := in_wrap _
theorem in_mulq (a b : Int) : In32 (mulqI a b) := in_sat _
theorem in_neg (a : Int) : In32 (negI a) := in_sat _
theorem in_abs (a : Int) (h : In32 a) : In32 (absI a) := by have := in_neg a; unfold In32 absI at *; omega
theorem in_sign (a : Int) (h : In32 a) : In32 (signI a) := by unfold In32 signI at *; omega
theorem in_clz (a : Int) : In32 (clzI a) := by
  have := Any.bitLen_le32 (a % 4294967296) (by omega) (by omega)
  unfold In32 clzI; omega
theorem in_min (a b : Int) (ha : In32 a) (hb : In32 b) : In32 (minI a b) := by unfold In32 minI at *; omega
theorem in_max (a b : Int) (ha : In32 a) (hb : In32 b) : In32 (maxI a b) := by unfold In32 maxI at *; omega

def selI (m a b : Int) : Int := orI (andI a m) (bicI b m)
def flipI (x m : Int) : Int := subI (xorI x m) m
end Go.Proofs.YtkfkoobdmnndcaaGreat
