/- A contract of the shelf at this dump (math/bits.Mul; the kit's tools wrote these lines; the numbers are filled in by name). -/
import Derived.Shelf.Small.Bits
import Derived.Shelf.LaysM
import Derived.Shelf.Bits.Mul64
import Derived.Test.YtjcgiddgafjdpaaGreatDoorProg
namespace Go.Proofs
open Go.Shelf
def Tryz.lays212_ren:Go.Shelf.Ren:=⟨fun | 212 => 240 | 263 => 282 | 264 => 283 | n => n,fun | 46 => 179 | 51 => 116 | 146 => 333 | 53 => 303 | 148 => 335 | n => n,fun | n => n⟩
theorem Tryz.lays212:Go.Proofs.Lays.n212 Tryz.prog Tryz.lays212_ren:={
 mixed:=by kernel_rfl
 f212:=Tryz.func240.trans (congrArg some (by kernel_rfl))
 f263:=Tryz.func282.trans (congrArg some (by kernel_rfl))
 f264:=Tryz.func283.trans (congrArg some (by kernel_rfl))
 t46:=Tryz.underlying179
 a46:=Tryz.isAgg179
 z46:=Tryz.sizeOf179
 v46:=Tryz.zeroValue179
 t51:=Tryz.underlying116
 a51:=Tryz.isAgg116
 z51:=Tryz.sizeOf116
 v51:=Tryz.zeroValue116
 t53:=Tryz.underlying303
 a53:=Tryz.isAgg303
 z53:=Tryz.sizeOf303
 v53:=Tryz.zeroValue303
 t146:=Tryz.underlying333
 a146:=Tryz.isAgg333
 z146:=Tryz.sizeOf333
 v146:=Tryz.zeroValue333
 t148:=Tryz.underlying335
 a148:=Tryz.isAgg335
 z148:=Tryz.sizeOf335
 v148:=Tryz.zeroValue335 }
open Go.RowKit Go.Lib in
theorem Tryz.bits_Mul (x y:Nat) (hx:x < 18446744073709551616) (hy:y < 18446744073709551616) (w:World) :
 Calls Tryz.prog 240 #[.int .u64 x,.int .u64 y] w fun e w' => e = .returned (.tuple #[.int .u64 ((x * y / 18446744073709551616:Nat):Int),.int .u64 ((x * y % 18446744073709551616:Nat):Int)])∧w' = w:=Any.bits_Mul Tryz.lays212 x y hx hy w
end Go.Proofs
