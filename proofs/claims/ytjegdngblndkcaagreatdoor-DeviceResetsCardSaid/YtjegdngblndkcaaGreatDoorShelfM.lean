/- A contract of the shelf at this dump (math/bits.Mul; the kit's tools wrote these lines; the numbers are filled in by name). -/
import Derived.Shelf.Small.Bits
import Derived.Shelf.LaysM
import Derived.Shelf.Bits.Mul64
import Derived.Test.YtjegdngblndkcaaGreatDoorProg
namespace Go.Proofs
open Go.Shelf
def Tryz.lays212_ren:Go.Shelf.Ren:=⟨fun | 212 => 162 | 263 => 187 | 264 => 188 | n => n,fun | 46 => 150 | 51 => 140 | 146 => 274 | 53 => 276 | 148 => 277 | n => n,fun | n => n⟩
theorem Tryz.lays212:Go.Proofs.Lays.n212 Tryz.prog Tryz.lays212_ren:={
 mixed:=by kernel_rfl
 f212:=Tryz.func162.trans (congrArg some (by kernel_rfl))
 f263:=Tryz.func187.trans (congrArg some (by kernel_rfl))
 f264:=Tryz.func188.trans (congrArg some (by kernel_rfl))
 t46:=Tryz.underlying150
 a46:=Tryz.isAgg150
 z46:=Tryz.sizeOf150
 v46:=Tryz.zeroValue150
 t51:=Tryz.underlying140
 a51:=Tryz.isAgg140
 z51:=Tryz.sizeOf140
 v51:=Tryz.zeroValue140
 t53:=Tryz.underlying276
 a53:=Tryz.isAgg276
 z53:=Tryz.sizeOf276
 v53:=Tryz.zeroValue276
 t146:=Tryz.underlying274
 a146:=Tryz.isAgg274
 z146:=Tryz.sizeOf274
 v146:=Tryz.zeroValue274
 t148:=Tryz.underlying277
 a148:=Tryz.isAgg277
 z148:=Tryz.sizeOf277
 v148:=Tryz.zeroValue277 }
open Go.RowKit Go.Lib in
theorem Tryz.bits_Mul (x y:Nat) (hx:x < 18446744073709551616) (hy:y < 18446744073709551616) (w:World) :
 Calls Tryz.prog 162 #[.int .u64 x,.int .u64 y] w fun e w' => e = .returned (.tuple #[.int .u64 ((x * y / 18446744073709551616:Nat):Int),.int .u64 ((x * y % 18446744073709551616:Nat):Int)])∧w' = w:=Any.bits_Mul Tryz.lays212 x y hx hy w
end Go.Proofs
