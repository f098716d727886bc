/- Two contracts of the shelf at this dump (the kit's tools wrote these lines; the numbers are filled in by name). -/
import Derived.Shelf.Strings.Trim
import Derived.Shelf.Small.Utf8
import Derived.Shelf.Small.Bits
import Derived.Shelf.Small.Strs
import Derived.Shelf.Strconv.Itoa0
import Derived.Shelf.Strings.Search1
import Derived.Shelf.Strings.Search2
import Derived.Shelf.Strings.Search3
import Derived.Shelf.LaysM
import Derived.Shelf.Strings.Shaped
import Derived.Shelf.Unicode.Decode
import Derived.Shelf.Strings.Runes
import Derived.Shelf.Strings.AsciiSet
import Derived.Shelf.Unicode.DecodeSlow
import Derived.Shelf.Unicode.DecodeAny
import Derived.Shelf.Unicode.DecodeLast
import Derived.Shelf.Strings.SlTrimAscii
import Derived.Test.YtakkofepcbkbkaaGreatDoorProg
namespace Go.Proofs
open Go.Shelf
def Tryz.lays160_ren : Go.Shelf.Ren := ⟨fun | 160 => 204 | 232 => 244 | 231 => 243 | 227 => 245 | 234 => 247 | 233 => 246 | 236 => 249 | 235 => 248 | 228 => 272 | 271 => 275 | 151 => 274 | 197 => 273 | 120 => 296 | 152 => 295 | 260 => 294 | 137 => 305 | 119 => 306 | 224 => 292 | 225 => 291 | 217 => 290 | 266 => 303 | n => n, fun | 9 => 9 | 4 => 4 | 3 => 3 | 5 => 5 | 117 => 284 | 116 => 283 | 0 => 0 | 124 => 287 | 21 => 21 | 105 => 54 | 46 => 169 | 119 => 330 | 139 => 333 | 138 => 332 | n => n, fun | 3 => 4 | 4 => 5 | n => n⟩
theorem Tryz.lays160 : Go.Proofs.Lays.n160 Tryz.prog Tryz.lays160_ren := {
 mixed := by kernel_rfl
 f119 := Tryz.func306.trans (congrArg some (by kernel_rfl))
 f120 := Tryz.func296.trans (congrArg some (by kernel_rfl))
 f137 := Tryz.func305.trans (congrArg some (by kernel_rfl))
 f151 := Tryz.func274.trans (congrArg some (by kernel_rfl))
 f152 := Tryz.func295.trans (congrArg some (by kernel_rfl))
 f160 := Tryz.func204.trans (congrArg some (by kernel_rfl))
 f197 := Tryz.func273.trans (congrArg some (by kernel_rfl))
 f217 := Tryz.func290.trans (congrArg some (by kernel_rfl))
 f224 := Tryz.func292.trans (congrArg some (by kernel_rfl))
 f225 := Tryz.func291.trans (congrArg some (by kernel_rfl))
 f227 := Tryz.func245.trans (congrArg some (by kernel_rfl))
 f228 := Tryz.func272.trans (congrArg some (by kernel_rfl))
 f231 := Tryz.func243.trans (congrArg some (by kernel_rfl))
 f232 := Tryz.func244.trans (congrArg some (by kernel_rfl))
 f233 := Tryz.func246.trans (congrArg some (by kernel_rfl))
 f234 := Tryz.func247.trans (congrArg some (by kernel_rfl))
 f235 := Tryz.func248.trans (congrArg some (by kernel_rfl))
 f236 := Tryz.func249.trans (congrArg some (by kernel_rfl))
 f260 := Tryz.func294.trans (congrArg some (by kernel_rfl))
 f266 := Tryz.func303.trans (congrArg some (by kernel_rfl))
 f271 := Tryz.func275.trans (congrArg some (by kernel_rfl))
 t0 := Tryz.underlying0
 a0 := Tryz.isAgg0
 z0 := Tryz.sizeOf0
 v0 := Tryz.zeroValue0
 t3 := Tryz.underlying3
 a3 := Tryz.isAgg3
 z3 := Tryz.sizeOf3
 v3 := Tryz.zeroValue3
 t4 := Tryz.underlying4
 a4 := Tryz.isAgg4
 z4 := Tryz.sizeOf4
 v4 := Tryz.zeroValue4
 t5 := Tryz.underlying5
 a5 := Tryz.isAgg5
 z5 := Tryz.sizeOf5
 v5 := Tryz.zeroValue5
 t9 := Tryz.underlying9
 a9 := Tryz.isAgg9
 z9 := Tryz.sizeOf9
 v9 := Tryz.zeroValue9
 t21 := Tryz.underlying21
 a21 := Tryz.isAgg21
 z21 := Tryz.sizeOf21
 v21 := Tryz.zeroValue21
 t46 := Tryz.underlying169
 a46 := Tryz.isAgg169
 z46 := Tryz.sizeOf169
 v46 := Tryz.zeroValue169
 t105 := Tryz.underlying54
 a105 := Tryz.isAgg54
 z105 := Tryz.sizeOf54
 v105 := Tryz.zeroValue54
 t116 := Tryz.underlying283
 a116 := Tryz.isAgg283
 z116 := Tryz.sizeOf283
 t117 := Tryz.underlying284
 a117 := Tryz.isAgg284
 z117 := Tryz.sizeOf284
 v117 := Tryz.zeroValue284
 t119 := Tryz.underlying330
 a119 := Tryz.isAgg330
 z119 := Tryz.sizeOf330
 t124 := Tryz.underlying287
 a124 := Tryz.isAgg287
 z124 := Tryz.sizeOf287
 v124 := Tryz.zeroValue287
 t138 := Tryz.underlying332
 a138 := Tryz.isAgg332
 z138 := Tryz.sizeOf332
 v138 := Tryz.zeroValue332
 t139 := Tryz.underlying333
 a139 := Tryz.isAgg333
 z139 := Tryz.sizeOf333
 v139 := Tryz.zeroValue333
 g3 := by kernel_rfl
 g4 := by kernel_rfl }
def Tryz.lays144_ren : Go.Shelf.Ren := ⟨fun | 144 => 203 | 143 => 242 | 219 => 271 | 217 => 290 | 225 => 291 | 224 => 292 | 267 => 293 | 266 => 303 | 314 => 304 | n => n, fun | 9 => 9 | 4 => 4 | 3 => 3 | 5 => 5 | 46 => 169 | 146 => 263 | 51 => 110 | n => n, fun | 1 => 2 | n => n⟩
theorem Tryz.lays144 : Go.Proofs.Lays.n144 Tryz.prog Tryz.lays144_ren := {
 mixed := by kernel_rfl
 f143 := Tryz.func242.trans (congrArg some (by kernel_rfl))
 f144 := Tryz.func203.trans (congrArg some (by kernel_rfl))
 f217 := Tryz.func290.trans (congrArg some (by kernel_rfl))
 f219 := Tryz.func271.trans (congrArg some (by kernel_rfl))
 f224 := Tryz.func292.trans (congrArg some (by kernel_rfl))
 f225 := Tryz.func291.trans (congrArg some (by kernel_rfl))
 f266 := Tryz.func303.trans (congrArg some (by kernel_rfl))
 f267 := Tryz.func293.trans (congrArg some (by kernel_rfl))
 f314 := Tryz.func304.trans (congrArg some (by kernel_rfl))
 t3 := Tryz.underlying3
 a3 := Tryz.isAgg3
 z3 := Tryz.sizeOf3
 v3 := Tryz.zeroValue3
 t4 := Tryz.underlying4
 a4 := Tryz.isAgg4
 z4 := Tryz.sizeOf4
 v4 := Tryz.zeroValue4
 t5 := Tryz.underlying5
 a5 := Tryz.isAgg5
 z5 := Tryz.sizeOf5
 v5 := Tryz.zeroValue5
 t9 := Tryz.underlying9
 a9 := Tryz.isAgg9
 z9 := Tryz.sizeOf9
 v9 := Tryz.zeroValue9
 t46 := Tryz.underlying169
 a46 := Tryz.isAgg169
 z46 := Tryz.sizeOf169
 v46 := Tryz.zeroValue169
 t51 := Tryz.underlying110
 a51 := Tryz.isAgg110
 z51 := Tryz.sizeOf110
 v51 := Tryz.zeroValue110
 t146 := Tryz.underlying263
 a146 := Tryz.isAgg263
 z146 := Tryz.sizeOf263
 v146 := Tryz.zeroValue263
 g1 := by kernel_rfl }
open Go.RowKit Go.Lib in
theorem Tryz.strings_Contains_one (s : ByteArray) (c : UInt8) (w : World) :
 Calls Tryz.prog 203 #[.string s, .string ⟨#[c]⟩] w fun e w' => e = .returned (.bool (decide (0 ≤ Lib.indexByte s.data.toList c))) ∧ w' = w := Any.strings_Contains_one Tryz.lays144 s c w
open Go.RowKit in
theorem Tryz.strings_Trim_laid (s cutset : ByteArray) (w : World) (hs : s.size ≤ 9223372036854775807) (hcs : cutset.size < 4294967281)
 (hascii : ∀ (j : Nat) b, cutset.data.toList[j]? = some b → b.toNat < 128) :
 Calls Tryz.prog 204 #[.string s, .string cutset] w fun e w' => e = .returned (.string ⟨(Lib.trimS s.data.toList cutset.data.toList).toArray⟩) ∧ Below w.heap.size w w' := Any.strings_Trim_laid Tryz.lays160 (by kernel_rfl) s cutset w hs hcs hascii
end Go.Proofs
