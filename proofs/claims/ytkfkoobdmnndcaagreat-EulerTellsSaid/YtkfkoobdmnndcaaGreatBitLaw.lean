/- Words and masks: all ones, or 0. -/
import Derived.Test.YtkfkoobdmnndcaaGreatWd
namespace Go.Proofs.YtkfkoobdmnndcaaGreat
open Go.RowKit
set_option linter.unusedVariables false
theorem of_all : BitVec.ofInt 32 (-1) = BitVec.allOnes 32 := by decide
theorem of_zero : BitVec.ofInt 32 0 = 0#32 := by decide
theorem and_all {x : Int} (h : In32 x) : andI x (-1) = x := by
  show IntKind.i32.wrap ((BitVec.ofInt 32 x &&& BitVec.ofInt 32 (-1)).toNat : Int) = _
  rw [of_all, BitVec.and_allOnes, IntKind.wrap_i32, BitVec.toNat_ofInt]
  unfold In32 at h
  omega
theorem and_none (x : Int) : andI x 0 = 0 := by
  show IntKind.i32.wrap ((BitVec.ofInt 32 x &&& BitVec.ofInt 32 0).toNat : Int) = _
  rw [of_zero, BitVec.and_zero]
  decide
theorem or_none {x : Int} (h : In32 x) : orI x 0 = x := by
  show IntKind.i32.wrap ((BitVec.ofInt 32 x ||| BitVec.ofInt 32 0).toNat : Int) = _
  rw [of_zero, BitVec.or_zero, IntKind.wrap_i32, BitVec.toNat_ofInt]
  unfold In32 at h
  omega
theorem none_or {x : Int} (h : In32 x) : orI 0 x = x := by
  show IntKind.i32.wrap ((BitVec.ofInt 32 0 ||| BitVec.ofInt 32 x).toNat : Int) = _
  rw [of_zero, BitVec.zero_or, IntKind.wrap_i32, BitVec.toNat_ofInt]
  unfold In32 at h
  omega
theorem xor_none {x : Int} (h : In32 x) : xorI x 0 = x := by
  show IntKind.i32.wrap ((BitVec.ofInt 32 x ^^^ BitVec.ofInt 32 0).toNat : Int) = _
  rw [of_zero, BitVec.xor_zero, IntKind.wrap_i32, BitVec.toNat_ofInt]
  unfold In32 at h
  omega
theorem xor_all {x : Int} (h : In32 x) : xorI x (-1) = -x - 1 := by
  show IntKind.i32.wrap ((BitVec.ofInt 32 x ^^^ BitVec.ofInt 32 (-1)).toNat : Int) = _
  rw [of_all, BitVec.xor_allOnes, IntKind.wrap_i32, BitVec.toNat_not, BitVec.toNat_ofInt]
  unfold In32 at h
  omega
theorem bic_none {x : Int} (h : In32 x) : bicI x 0 = x := by
  show IntKind.i32.wrap ((BitVec.ofInt 32 x &&& ~~~BitVec.ofInt 32 0).toNat : Int) = _
  rw [of_zero, BitVec.not_zero, BitVec.and_allOnes, IntKind.wrap_i32, BitVec.toNat_ofInt]
  unfold In32 at h
  omega
theorem bic_all {x : Int} (h : In32 x) : bicI x (-1) = 0 := by
  show IntKind.i32.wrap ((BitVec.ofInt 32 x &&& ~~~BitVec.ofInt 32 (-1)).toNat : Int) = _
  rw [of_all, BitVec.not_allOnes, BitVec.and_zero]
  decide
theorem sign_pos {y : Wd} (h : 0 ≤ y.v) : signW y = kW 0 := Wd.ext_ (by
  have := y.ok; unfold In32 at this
  show y.v / 2147483648 = (kW 0).v
  rw [kW_v (by decide)]; omega)
theorem sign_neg {y : Wd} (h : y.v < 0) : signW y = kW (-1) := Wd.ext_ (by
  have := y.ok; unfold In32 at this
  show y.v / 2147483648 = (kW (-1)).v
  rw [kW_v (by decide)]; omega)
theorem flip_none (x : Wd) : flipW x (kW 0) = x := Wd.ext_ (by
  have := x.ok
  show wrap32 (xorI x.v (kW 0).v - (kW 0).v) = x.v
  rw [kW_v (by decide), xor_none this]
  unfold In32 at this; unfold wrap32; omega)
theorem flip_all {x : Wd} (h : -2147483648 < x.v) : (flipW x (kW (-1))).v = -x.v := by
  have := x.ok
  show wrap32 (xorI x.v (kW (-1)).v - (kW (-1)).v) = _
  rw [kW_v (by decide), xor_all this]
  unfold In32 at this; unfold wrap32; omega
theorem sel_all (a b : Wd) : selW (kW (-1)) a b = a := Wd.ext_ (by
  show orI (andI a.v (kW (-1)).v) (bicI b.v (kW (-1)).v) = a.v
  rw [kW_v (by decide), and_all a.ok, bic_all b.ok, or_none a.ok])
theorem sel_none (a b : Wd) : selW (kW 0) a b = b := Wd.ext_ (by
  show orI (andI a.v (kW 0).v) (bicI b.v (kW 0).v) = b.v
  rw [kW_v (by decide), and_none, bic_none b.ok, none_or b.ok])
theorem slt_yes {a b : Wd} (h : a.v < b.v) : negW (sltW a b) = kW (-1) := Wd.ext_ (by
  show satI (-(if a.v < b.v then 1 else 0)) = _
  rw [if_pos h]; decide +kernel)
theorem slt_no {a b : Wd} (h : b.v ≤ a.v) : negW (sltW a b) = kW 0 := Wd.ext_ (by
  show satI (-(if a.v < b.v then 1 else 0)) = _
  rw [if_neg (by omega)]; decide +kernel)
theorem add_is {a b : Wd} (h : In32 (a.v + b.v)) : (addW a b).v = a.v + b.v := by
  show wrap32 (a.v + b.v) = _
  unfold In32 at h; unfold wrap32; omega
theorem sub_is {a b : Wd} (h : In32 (a.v - b.v)) : (subW a b).v = a.v - b.v := by
  show wrap32 (a.v - b.v) = _
  unfold In32 at h; unfold wrap32; omega
end Go.Proofs.YtkfkoobdmnndcaaGreat
