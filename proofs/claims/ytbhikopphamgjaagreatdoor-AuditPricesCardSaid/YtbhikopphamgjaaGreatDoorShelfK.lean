/- Two contracts of the shelf at this dump (the kit's tools wrote these lines; the numbers are filled in by name). -/
import Derived.Shelf.Small.Bits
import Derived.Shelf.Strings.Shaped
import Derived.Shelf.Unicode.Decode
import Derived.Shelf.Unicode.DecodeLast
import Derived.Shelf.Strings.SlTrimAscii
import Derived.Test.YtbhikopphamgjaaGreatDoorProg
namespace Go.Proofs
open Go.Shelf
def Tryz.lays160_ren:Go.Shelf.Ren:=⟨fun | 160 => 189 | 232 => 216 | 231 => 215 | 227 => 217 | 234 => 219 | 233 => 218 | 236 => 221 | 235 => 220 | 228 => 240 | 271 => 243 | 151 => 242 | 197 => 241 | 120 => 268 | 152 => 267 | 260 => 266 | 137 => 284 | 119 => 285 | 224 => 264 | 225 => 263 | 217 => 262 | 266 => 282 | n => n,fun | 9 => 9 | 4 => 4 | 3 => 3 | 5 => 5 | 117 => 304 | 116 => 303 | 0 => 0 | 124 => 307 | 21 => 21 | 105 => 325 | 46 => 166 | 119 => 350 | 139 => 353 | 138 => 352 | n => n,fun | 3 => 7 | 4 => 8 | n => n⟩
theorem Tryz.lays160:Go.Proofs.Lays.n160 Tryz.prog Tryz.lays160_ren:={
 mixed:=by kernel_rfl
 f119:=Tryz.func285.trans (congrArg some (by kernel_rfl))
 f120:=Tryz.func268.trans (congrArg some (by kernel_rfl))
 f137:=Tryz.func284.trans (congrArg some (by kernel_rfl))
 f151:=Tryz.func242.trans (congrArg some (by kernel_rfl))
 f152:=Tryz.func267.trans (congrArg some (by kernel_rfl))
 f160:=Tryz.func189.trans (congrArg some (by kernel_rfl))
 f197:=Tryz.func241.trans (congrArg some (by kernel_rfl))
 f217:=Tryz.func262.trans (congrArg some (by kernel_rfl))
 f224:=Tryz.func264.trans (congrArg some (by kernel_rfl))
 f225:=Tryz.func263.trans (congrArg some (by kernel_rfl))
 f227:=Tryz.func217.trans (congrArg some (by kernel_rfl))
 f228:=Tryz.func240.trans (congrArg some (by kernel_rfl))
 f231:=Tryz.func215.trans (congrArg some (by kernel_rfl))
 f232:=Tryz.func216.trans (congrArg some (by kernel_rfl))
 f233:=Tryz.func218.trans (congrArg some (by kernel_rfl))
 f234:=Tryz.func219.trans (congrArg some (by kernel_rfl))
 f235:=Tryz.func220.trans (congrArg some (by kernel_rfl))
 f236:=Tryz.func221.trans (congrArg some (by kernel_rfl))
 f260:=Tryz.func266.trans (congrArg some (by kernel_rfl))
 f266:=Tryz.func282.trans (congrArg some (by kernel_rfl))
 f271:=Tryz.func243.trans (congrArg some (by kernel_rfl))
 t0:=Tryz.underlying0
 a0:=Tryz.isAgg0
 z0:=Tryz.sizeOf0
 v0:=Tryz.zeroValue0
 t3:=Tryz.underlying3
 a3:=Tryz.isAgg3
 z3:=Tryz.sizeOf3
 v3:=Tryz.zeroValue3
 t4:=Tryz.underlying4
 a4:=Tryz.isAgg4
 z4:=Tryz.sizeOf4
 v4:=Tryz.zeroValue4
 t5:=Tryz.underlying5
 a5:=Tryz.isAgg5
 z5:=Tryz.sizeOf5
 v5:=Tryz.zeroValue5
 t9:=Tryz.underlying9
 a9:=Tryz.isAgg9
 z9:=Tryz.sizeOf9
 v9:=Tryz.zeroValue9
 t21:=Tryz.underlying21
 a21:=Tryz.isAgg21
 z21:=Tryz.sizeOf21
 v21:=Tryz.zeroValue21
 t46:=Tryz.underlying166
 a46:=Tryz.isAgg166
 z46:=Tryz.sizeOf166
 v46:=Tryz.zeroValue166
 t105:=Tryz.underlying325
 a105:=Tryz.isAgg325
 z105:=Tryz.sizeOf325
 v105:=Tryz.zeroValue325
 t116:=Tryz.underlying303
 a116:=Tryz.isAgg303
 z116:=Tryz.sizeOf303
 t117:=Tryz.underlying304
 a117:=Tryz.isAgg304
 z117:=Tryz.sizeOf304
 v117:=Tryz.zeroValue304
 t119:=Tryz.underlying350
 a119:=Tryz.isAgg350
 z119:=Tryz.sizeOf350
 t124:=Tryz.underlying307
 a124:=Tryz.isAgg307
 z124:=Tryz.sizeOf307
 v124:=Tryz.zeroValue307
 t138:=Tryz.underlying352
 a138:=Tryz.isAgg352
 z138:=Tryz.sizeOf352
 v138:=Tryz.zeroValue352
 t139:=Tryz.underlying353
 a139:=Tryz.isAgg353
 z139:=Tryz.sizeOf353
 v139:=Tryz.zeroValue353
 g3:=by kernel_rfl
 g4:=by kernel_rfl }
def Tryz.lays144_ren:Go.Shelf.Ren:=⟨fun | 144 => 188 | 143 => 214 | 219 => 239 | 217 => 262 | 225 => 263 | 224 => 264 | 267 => 265 | 266 => 282 | 314 => 283 | n => n,fun | 9 => 9 | 4 => 4 | 3 => 3 | 5 => 5 | 46 => 166 | 146 => 290 | 51 => 156 | n => n,fun | 1 => 5 | n => n⟩
theorem Tryz.lays144:Go.Proofs.Lays.n144 Tryz.prog Tryz.lays144_ren:={
 mixed:=by kernel_rfl
 f143:=Tryz.func214.trans (congrArg some (by kernel_rfl))
 f144:=Tryz.func188.trans (congrArg some (by kernel_rfl))
 f217:=Tryz.func262.trans (congrArg some (by kernel_rfl))
 f219:=Tryz.func239.trans (congrArg some (by kernel_rfl))
 f224:=Tryz.func264.trans (congrArg some (by kernel_rfl))
 f225:=Tryz.func263.trans (congrArg some (by kernel_rfl))
 f266:=Tryz.func282.trans (congrArg some (by kernel_rfl))
 f267:=Tryz.func265.trans (congrArg some (by kernel_rfl))
 f314:=Tryz.func283.trans (congrArg some (by kernel_rfl))
 t3:=Tryz.underlying3
 a3:=Tryz.isAgg3
 z3:=Tryz.sizeOf3
 v3:=Tryz.zeroValue3
 t4:=Tryz.underlying4
 a4:=Tryz.isAgg4
 z4:=Tryz.sizeOf4
 v4:=Tryz.zeroValue4
 t5:=Tryz.underlying5
 a5:=Tryz.isAgg5
 z5:=Tryz.sizeOf5
 v5:=Tryz.zeroValue5
 t9:=Tryz.underlying9
 a9:=Tryz.isAgg9
 z9:=Tryz.sizeOf9
 v9:=Tryz.zeroValue9
 t46:=Tryz.underlying166
 a46:=Tryz.isAgg166
 z46:=Tryz.sizeOf166
 v46:=Tryz.zeroValue166
 t51:=Tryz.underlying156
 a51:=Tryz.isAgg156
 z51:=Tryz.sizeOf156
 v51:=Tryz.zeroValue156
 t146:=Tryz.underlying290
 a146:=Tryz.isAgg290
 z146:=Tryz.sizeOf290
 v146:=Tryz.zeroValue290
 g1:=by kernel_rfl }
open Go.RowKit Go.Lib in
theorem Tryz.strings_Contains_one (s:ByteArray) (c:UInt8) (w:World) :
 Calls Tryz.prog 188 #[.string s,.string ⟨#[c]⟩] w fun e w' => e = .returned (.bool (decide (0<=Lib.indexByte s.data.toList c)))/\w' = w:=Any.strings_Contains_one Tryz.lays144 s c w
open Go.RowKit in
theorem Tryz.strings_Trim_laid (s cutset:ByteArray) (w:World) (hs:s.size<=9223372036854775807) (hcs:cutset.size < 4294967281)
 (hascii:∀ (j:Nat) b,cutset.data.toList[j]? = some b->b.toNat < 128) :
 Calls Tryz.prog 189 #[.string s,.string cutset] w fun e w' => e = .returned (.string ⟨(Lib.trimS s.data.toList cutset.data.toList).toArray⟩)/\Below w.heap.size w w':=Any.strings_Trim_laid Tryz.lays160 (by kernel_rfl) s cutset w hs hcs hascii
end Go.Proofs
