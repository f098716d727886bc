/- A contract of the shelf at this dump (math/bits.Mul; the kit's tools wrote these lines; the numbers are filled in by name). -/
import Derived.Shelf.Small.Bits
import Derived.Shelf.LaysM
import Derived.Shelf.Bits.Mul64
import Derived.Test.YthnhilghjadigaaGreatDoorProg
namespace Go.Proofs
open Go.Shelf
def Tryz.lays212_ren : Go.Shelf.Ren := ⟨fun | 212 => 96 | 263 => 130 | 264 => 131 | n => n, fun | 46 => 155 | 51 => 101 | 146 => 227 | 53 => 229 | 148 => 230 | n => n, fun | n => n⟩
theorem Tryz.lays212 : Go.Proofs.Lays.n212 Tryz.prog Tryz.lays212_ren := {
 mixed := by kernel_rfl
 f212 := Tryz.func96.trans (congrArg some (by kernel_rfl))
 f263 := Tryz.func130.trans (congrArg some (by kernel_rfl))
 f264 := Tryz.func131.trans (congrArg some (by kernel_rfl))
 t46 := Tryz.underlying155
 a46 := Tryz.isAgg155
 z46 := Tryz.sizeOf155
 v46 := Tryz.zeroValue155
 t51 := Tryz.underlying101
 a51 := Tryz.isAgg101
 z51 := Tryz.sizeOf101
 v51 := Tryz.zeroValue101
 t53 := Tryz.underlying229
 a53 := Tryz.isAgg229
 z53 := Tryz.sizeOf229
 v53 := Tryz.zeroValue229
 t146 := Tryz.underlying227
 a146 := Tryz.isAgg227
 z146 := Tryz.sizeOf227
 v146 := Tryz.zeroValue227
 t148 := Tryz.underlying230
 a148 := Tryz.isAgg230
 z148 := Tryz.sizeOf230
 v148 := Tryz.zeroValue230 }
open Go.RowKit Go.Lib in
theorem Tryz.bits_Mul (x y : Nat) (hx : x < 18446744073709551616) (hy : y < 18446744073709551616) (w : World) :
 Calls Tryz.prog 96 #[.int .u64 x, .int .u64 y] w fun e w' => e = .returned (.tuple #[.int .u64 ((x * y / 18446744073709551616 : Nat) : Int), .int .u64 ((x * y % 18446744073709551616 : Nat) : Int)]) ∧ w' = w := Any.bits_Mul Tryz.lays212 x y hx hy w
end Go.Proofs
