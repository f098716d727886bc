/- Two contracts of the shelf at this dump (the kit's tools wrote these lines; the numbers are filled in by name). -/
import Derived.Shelf.Strings.Trim
import Derived.Shelf.Small.Utf8
import Derived.Shelf.Small.Bits
import Derived.Shelf.Small.Strs
import Derived.Shelf.Strconv.Itoa0
import Derived.Shelf.Strings.Search1
import Derived.Shelf.Strings.Search2
import Derived.Shelf.Strings.Search3
import Derived.Shelf.LaysM
import Derived.Shelf.Strings.Shaped
import Derived.Shelf.Unicode.Decode
import Derived.Shelf.Strings.Runes
import Derived.Shelf.Strings.AsciiSet
import Derived.Shelf.Unicode.DecodeSlow
import Derived.Shelf.Unicode.DecodeAny
import Derived.Shelf.Unicode.DecodeLast
import Derived.Shelf.Strings.SlTrimAscii
import Derived.Test.YtjcgiddgafjdpaaGreatDoorProg
namespace Go.Proofs
open Go.Shelf
def Tryz.lays160_ren:Go.Shelf.Ren:=⟨fun | 160 => 274 | 232 => 319 | 231 => 318 | 227 => 320 | 234 => 322 | 233 => 321 | 236 => 324 | 235 => 323 | 228 => 348 | 271 => 351 | 151 => 350 | 197 => 349 | 120 => 372 | 152 => 371 | 260 => 370 | 137 => 381 | 119 => 382 | 224 => 368 | 225 => 367 | 217 => 366 | 266 => 379 | n => n,fun | 9 => 9 | 4 => 4 | 3 => 3 | 5 => 5 | 117 => 354 | 116 => 353 | 0 => 0 | 124 => 357 | 21 => 21 | 105 => 383 | 46 => 179 | 119 => 401 | 139 => 404 | 138 => 403 | n => n,fun | 3 => 4 | 4 => 5 | n => n⟩
theorem Tryz.lays160:Go.Proofs.Lays.n160 Tryz.prog Tryz.lays160_ren:={
 mixed:=by kernel_rfl
 f119:=Tryz.func382.trans (congrArg some (by kernel_rfl))
 f120:=Tryz.func372.trans (congrArg some (by kernel_rfl))
 f137:=Tryz.func381.trans (congrArg some (by kernel_rfl))
 f151:=Tryz.func350.trans (congrArg some (by kernel_rfl))
 f152:=Tryz.func371.trans (congrArg some (by kernel_rfl))
 f160:=Tryz.func274.trans (congrArg some (by kernel_rfl))
 f197:=Tryz.func349.trans (congrArg some (by kernel_rfl))
 f217:=Tryz.func366.trans (congrArg some (by kernel_rfl))
 f224:=Tryz.func368.trans (congrArg some (by kernel_rfl))
 f225:=Tryz.func367.trans (congrArg some (by kernel_rfl))
 f227:=Tryz.func320.trans (congrArg some (by kernel_rfl))
 f228:=Tryz.func348.trans (congrArg some (by kernel_rfl))
 f231:=Tryz.func318.trans (congrArg some (by kernel_rfl))
 f232:=Tryz.func319.trans (congrArg some (by kernel_rfl))
 f233:=Tryz.func321.trans (congrArg some (by kernel_rfl))
 f234:=Tryz.func322.trans (congrArg some (by kernel_rfl))
 f235:=Tryz.func323.trans (congrArg some (by kernel_rfl))
 f236:=Tryz.func324.trans (congrArg some (by kernel_rfl))
 f260:=Tryz.func370.trans (congrArg some (by kernel_rfl))
 f266:=Tryz.func379.trans (congrArg some (by kernel_rfl))
 f271:=Tryz.func351.trans (congrArg some (by kernel_rfl))
 t0:=Tryz.underlying0
 a0:=Tryz.isAgg0
 z0:=Tryz.sizeOf0
 v0:=Tryz.zeroValue0
 t3:=Tryz.underlying3
 a3:=Tryz.isAgg3
 z3:=Tryz.sizeOf3
 v3:=Tryz.zeroValue3
 t4:=Tryz.underlying4
 a4:=Tryz.isAgg4
 z4:=Tryz.sizeOf4
 v4:=Tryz.zeroValue4
 t5:=Tryz.underlying5
 a5:=Tryz.isAgg5
 z5:=Tryz.sizeOf5
 v5:=Tryz.zeroValue5
 t9:=Tryz.underlying9
 a9:=Tryz.isAgg9
 z9:=Tryz.sizeOf9
 v9:=Tryz.zeroValue9
 t21:=Tryz.underlying21
 a21:=Tryz.isAgg21
 z21:=Tryz.sizeOf21
 v21:=Tryz.zeroValue21
 t46:=Tryz.underlying179
 a46:=Tryz.isAgg179
 z46:=Tryz.sizeOf179
 v46:=Tryz.zeroValue179
 t105:=Tryz.underlying383
 a105:=Tryz.isAgg383
 z105:=Tryz.sizeOf383
 v105:=Tryz.zeroValue383
 t116:=Tryz.underlying353
 a116:=Tryz.isAgg353
 z116:=Tryz.sizeOf353
 t117:=Tryz.underlying354
 a117:=Tryz.isAgg354
 z117:=Tryz.sizeOf354
 v117:=Tryz.zeroValue354
 t119:=Tryz.underlying401
 a119:=Tryz.isAgg401
 z119:=Tryz.sizeOf401
 t124:=Tryz.underlying357
 a124:=Tryz.isAgg357
 z124:=Tryz.sizeOf357
 v124:=Tryz.zeroValue357
 t138:=Tryz.underlying403
 a138:=Tryz.isAgg403
 z138:=Tryz.sizeOf403
 v138:=Tryz.zeroValue403
 t139:=Tryz.underlying404
 a139:=Tryz.isAgg404
 z139:=Tryz.sizeOf404
 v139:=Tryz.zeroValue404
 g3:=by kernel_rfl
 g4:=by kernel_rfl }
def Tryz.lays144_ren:Go.Shelf.Ren:=⟨fun | 144 => 273 | 143 => 317 | 219 => 347 | 217 => 366 | 225 => 367 | 224 => 368 | 267 => 369 | 266 => 379 | 314 => 380 | n => n,fun | 9 => 9 | 4 => 4 | 3 => 3 | 5 => 5 | 46 => 179 | 146 => 333 | 51 => 116 | n => n,fun | 1 => 2 | n => n⟩
theorem Tryz.lays144:Go.Proofs.Lays.n144 Tryz.prog Tryz.lays144_ren:={
 mixed:=by kernel_rfl
 f143:=Tryz.func317.trans (congrArg some (by kernel_rfl))
 f144:=Tryz.func273.trans (congrArg some (by kernel_rfl))
 f217:=Tryz.func366.trans (congrArg some (by kernel_rfl))
 f219:=Tryz.func347.trans (congrArg some (by kernel_rfl))
 f224:=Tryz.func368.trans (congrArg some (by kernel_rfl))
 f225:=Tryz.func367.trans (congrArg some (by kernel_rfl))
 f266:=Tryz.func379.trans (congrArg some (by kernel_rfl))
 f267:=Tryz.func369.trans (congrArg some (by kernel_rfl))
 f314:=Tryz.func380.trans (congrArg some (by kernel_rfl))
 t3:=Tryz.underlying3
 a3:=Tryz.isAgg3
 z3:=Tryz.sizeOf3
 v3:=Tryz.zeroValue3
 t4:=Tryz.underlying4
 a4:=Tryz.isAgg4
 z4:=Tryz.sizeOf4
 v4:=Tryz.zeroValue4
 t5:=Tryz.underlying5
 a5:=Tryz.isAgg5
 z5:=Tryz.sizeOf5
 v5:=Tryz.zeroValue5
 t9:=Tryz.underlying9
 a9:=Tryz.isAgg9
 z9:=Tryz.sizeOf9
 v9:=Tryz.zeroValue9
 t46:=Tryz.underlying179
 a46:=Tryz.isAgg179
 z46:=Tryz.sizeOf179
 v46:=Tryz.zeroValue179
 t51:=Tryz.underlying116
 a51:=Tryz.isAgg116
 z51:=Tryz.sizeOf116
 v51:=Tryz.zeroValue116
 t146:=Tryz.underlying333
 a146:=Tryz.isAgg333
 z146:=Tryz.sizeOf333
 v146:=Tryz.zeroValue333
 g1:=by kernel_rfl }
open Go.RowKit Go.Lib in
theorem Tryz.strings_Contains_one (s:ByteArray) (c:UInt8) (w:World) :
 Calls Tryz.prog 273 #[.string s,.string ⟨#[c]⟩] w fun e w' => e = .returned (.bool (decide (0≤Lib.indexByte s.data.toList c)))∧w' = w:=Any.strings_Contains_one Tryz.lays144 s c w
open Go.RowKit in
theorem Tryz.strings_Trim_laid (s cutset:ByteArray) (w:World) (hs:s.size≤9223372036854775807) (hcs:cutset.size < 4294967281)
 (hascii:∀ (j:Nat) b,cutset.data.toList[j]? = some b→b.toNat < 128) :
 Calls Tryz.prog 274 #[.string s,.string cutset] w fun e w' => e = .returned (.string ⟨(Lib.trimS s.data.toList cutset.data.toList).toArray⟩)∧Below w.heap.size w w':=Any.strings_Trim_laid Tryz.lays160 (by kernel_rfl) s cutset w hs hcs hascii
end Go.Proofs
