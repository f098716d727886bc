/- Two contracts of the shelf at this dump (the kit's tools wrote these lines; the numbers are filled in by name). -/
import Derived.Shelf.Small.Bits
import Derived.Shelf.Strings.Shaped
import Derived.Shelf.Unicode.Decode
import Derived.Shelf.Unicode.DecodeLast
import Derived.Shelf.Strings.SlTrimAscii
import Derived.Test.YtjmojlhnmkjdkaaGreatDoorProg
namespace Go.Proofs
open Go.Shelf
def Tryz.lays160_ren:Go.Shelf.Ren:=⟨fun | 160=>271 | 232=>302 | 231=>301 | 227=>303 | 234=>305 | 233=>304 | 236=>307 | 235=>306 | 228=>327 | 271=>330 | 151=>329 | 197=>328 | 120=>350 | 152=>349 | 260=>348 | 137=>359 | 119=>360 | 224=>346 | 225=>345 | 217=>344 | 266=>357 | n=>n,fun | 9=>9 | 4=>4 | 3=>3 | 5=>5 | 117=>357 | 116=>356 | 0=>0 | 124=>360 | 21=>21 | 105=>376 | 46=>183 | 119=>392 | 139=>395 | 138=>394 | n=>n,fun | 3=>7 | 4=>8 | n=>n⟩
theorem Tryz.lays160:Go.Proofs.Lays.n160 Tryz.prog Tryz.lays160_ren:={
 mixed:=by kernel_rfl
 f119:=Tryz.func360.trans (congrArg some (by kernel_rfl))
 f120:=Tryz.func350.trans (congrArg some (by kernel_rfl))
 f137:=Tryz.func359.trans (congrArg some (by kernel_rfl))
 f151:=Tryz.func329.trans (congrArg some (by kernel_rfl))
 f152:=Tryz.func349.trans (congrArg some (by kernel_rfl))
 f160:=Tryz.func271.trans (congrArg some (by kernel_rfl))
 f197:=Tryz.func328.trans (congrArg some (by kernel_rfl))
 f217:=Tryz.func344.trans (congrArg some (by kernel_rfl))
 f224:=Tryz.func346.trans (congrArg some (by kernel_rfl))
 f225:=Tryz.func345.trans (congrArg some (by kernel_rfl))
 f227:=Tryz.func303.trans (congrArg some (by kernel_rfl))
 f228:=Tryz.func327.trans (congrArg some (by kernel_rfl))
 f231:=Tryz.func301.trans (congrArg some (by kernel_rfl))
 f232:=Tryz.func302.trans (congrArg some (by kernel_rfl))
 f233:=Tryz.func304.trans (congrArg some (by kernel_rfl))
 f234:=Tryz.func305.trans (congrArg some (by kernel_rfl))
 f235:=Tryz.func306.trans (congrArg some (by kernel_rfl))
 f236:=Tryz.func307.trans (congrArg some (by kernel_rfl))
 f260:=Tryz.func348.trans (congrArg some (by kernel_rfl))
 f266:=Tryz.func357.trans (congrArg some (by kernel_rfl))
 f271:=Tryz.func330.trans (congrArg some (by kernel_rfl))
 t0:=Tryz.underlying0
 a0:=Tryz.isAgg0
 z0:=Tryz.sizeOf0
 v0:=Tryz.zeroValue0
 t3:=Tryz.underlying3
 a3:=Tryz.isAgg3
 z3:=Tryz.sizeOf3
 v3:=Tryz.zeroValue3
 t4:=Tryz.underlying4
 a4:=Tryz.isAgg4
 z4:=Tryz.sizeOf4
 v4:=Tryz.zeroValue4
 t5:=Tryz.underlying5
 a5:=Tryz.isAgg5
 z5:=Tryz.sizeOf5
 v5:=Tryz.zeroValue5
 t9:=Tryz.underlying9
 a9:=Tryz.isAgg9
 z9:=Tryz.sizeOf9
 v9:=Tryz.zeroValue9
 t21:=Tryz.underlying21
 a21:=Tryz.isAgg21
 z21:=Tryz.sizeOf21
 v21:=Tryz.zeroValue21
 t46:=Tryz.underlying183
 a46:=Tryz.isAgg183
 z46:=Tryz.sizeOf183
 v46:=Tryz.zeroValue183
 t105:=Tryz.underlying376
 a105:=Tryz.isAgg376
 z105:=Tryz.sizeOf376
 v105:=Tryz.zeroValue376
 t116:=Tryz.underlying356
 a116:=Tryz.isAgg356
 z116:=Tryz.sizeOf356
 t117:=Tryz.underlying357
 a117:=Tryz.isAgg357
 z117:=Tryz.sizeOf357
 v117:=Tryz.zeroValue357
 t119:=Tryz.underlying392
 a119:=Tryz.isAgg392
 z119:=Tryz.sizeOf392
 t124:=Tryz.underlying360
 a124:=Tryz.isAgg360
 z124:=Tryz.sizeOf360
 v124:=Tryz.zeroValue360
 t138:=Tryz.underlying394
 a138:=Tryz.isAgg394
 z138:=Tryz.sizeOf394
 v138:=Tryz.zeroValue394
 t139:=Tryz.underlying395
 a139:=Tryz.isAgg395
 z139:=Tryz.sizeOf395
 v139:=Tryz.zeroValue395
 g3:=by kernel_rfl
 g4:=by kernel_rfl }
def Tryz.lays144_ren:Go.Shelf.Ren:=⟨fun | 144=>270 | 143=>300 | 219=>326 | 217=>344 | 225=>345 | 224=>346 | 267=>347 | 266=>357 | 314=>358 | n=>n,fun | 9=>9 | 4=>4 | 3=>3 | 5=>5 | 46=>183 | 146=>337 | 51=>124 | n=>n,fun | 1=>5 | n=>n⟩
theorem Tryz.lays144:Go.Proofs.Lays.n144 Tryz.prog Tryz.lays144_ren:={
 mixed:=by kernel_rfl
 f143:=Tryz.func300.trans (congrArg some (by kernel_rfl))
 f144:=Tryz.func270.trans (congrArg some (by kernel_rfl))
 f217:=Tryz.func344.trans (congrArg some (by kernel_rfl))
 f219:=Tryz.func326.trans (congrArg some (by kernel_rfl))
 f224:=Tryz.func346.trans (congrArg some (by kernel_rfl))
 f225:=Tryz.func345.trans (congrArg some (by kernel_rfl))
 f266:=Tryz.func357.trans (congrArg some (by kernel_rfl))
 f267:=Tryz.func347.trans (congrArg some (by kernel_rfl))
 f314:=Tryz.func358.trans (congrArg some (by kernel_rfl))
 t3:=Tryz.underlying3
 a3:=Tryz.isAgg3
 z3:=Tryz.sizeOf3
 v3:=Tryz.zeroValue3
 t4:=Tryz.underlying4
 a4:=Tryz.isAgg4
 z4:=Tryz.sizeOf4
 v4:=Tryz.zeroValue4
 t5:=Tryz.underlying5
 a5:=Tryz.isAgg5
 z5:=Tryz.sizeOf5
 v5:=Tryz.zeroValue5
 t9:=Tryz.underlying9
 a9:=Tryz.isAgg9
 z9:=Tryz.sizeOf9
 v9:=Tryz.zeroValue9
 t46:=Tryz.underlying183
 a46:=Tryz.isAgg183
 z46:=Tryz.sizeOf183
 v46:=Tryz.zeroValue183
 t51:=Tryz.underlying124
 a51:=Tryz.isAgg124
 z51:=Tryz.sizeOf124
 v51:=Tryz.zeroValue124
 t146:=Tryz.underlying337
 a146:=Tryz.isAgg337
 z146:=Tryz.sizeOf337
 v146:=Tryz.zeroValue337
 g1:=by kernel_rfl }
open Go.RowKit Go.Lib in
theorem Tryz.strings_Contains_one (s:ByteArray) (c:UInt8) (w:World) :
 Calls Tryz.prog 270 #[.string s,.string ⟨#[c]⟩] w fun e w'=>e=.returned (.bool (decide (0<=Lib.indexByte s.data.toList c)))/\w'=w:=Any.strings_Contains_one Tryz.lays144 s c w
open Go.RowKit in
theorem Tryz.strings_Trim_laid(s cutset:ByteArray)(w:World)(hs:s.size<=9223372036854775807)(hcs:cutset.size<4294967281)
 (hascii:∀(j:Nat) b,cutset.data.toList[j]?=some b->b.toNat<128) :
 Calls Tryz.prog 271 #[.string s,.string cutset] w fun e w'=>e=.returned (.string ⟨(Lib.trimS s.data.toList cutset.data.toList).toArray⟩)/\Below w.heap.size w w':=Any.strings_Trim_laid Tryz.lays160 (by kernel_rfl) s cutset w hs hcs hascii
