/- Texts of this claim, side by side: Num2, Alu, Mill2, In32, Wd, Wdef, BitLaw, Ref01, Ref32, Ref32b, TopDef, NextDef, OfDef. -/
import Derived.Test.YtjegdngblndkcaaGreatDoorDV1
import Derived.Test.YtjegdngblndkcaaGreatDoorShelfB
/- fix, word, clz. -/
namespace Go.Proofs.YtjegdngblndkcaaGreatDoor
open Go.RowKit Go.Deep
set_option linter.unusedVariables false
def xY (a:Int):Int:=32 - (Lib.bitLen (a % 4294967296).toNat:Int)
def Hy (a b:Int):Int:=wrap32 (a * b % 4294967296)
def E_ (a b:Int):Int:=lW (a * b / 1073741824 + a * b / 536870912 % 2)
set_option maxHeartbeats 400000 in
theorem Xx (a:Int) (w:World) (ha:-2147483648≤a∧a≤2147483647) :
 Calls Tryz.prog 268 #[.int .i32 a] w fun e w' => e = .returned (.int .i32 (xX a))∧ah w w' []:=by
 obtain ⟨n,hn⟩:∃ n,n = uX a:=⟨_,rfl⟩
 have e:xX a = max a n:=by unfold xX; rw [hn]
 rw [e]
 have HN:=hide hn
 clear hn e
 go_enter Tryz.func268,Tryz.ntmps268
 go_wp2_with fail
 refine (Jo a _ ha).mono ?_
 rintro e w1 ⟨rfl,hc⟩
 rw [← HN.out]
 have HC:=hide hc
 clear hc HN
 go_wp2
 all_goals
  go_ret
  exact ⟨by first | (rw [show max a n = if a < n then n else a by split <;> omega]; rfl) | (rw [show max a n = n by omega]; rfl) | (rw [show max a n = a by omega]; rfl),HC.out⟩
set_option maxHeartbeats 400000 in
theorem ZW (a:Int) (w:World) (ha:-2147483648≤a∧a≤2147483647) :
 Calls Tryz.prog 266 #[.int .i32 a] w fun e w' => e = .returned (.int .i32 (xY a))∧w = w':=by
 have l:=Any.bitLen_le32 (a % 4294967296) (by omega) (by omega)
 have hw:wrap32 (32 - (Lib.bitLen (a % 4294967296).toNat:Int)) = xY a:=by unfold xY wrap32; omega
 have HW:=hide hw
 clear hw
 go_enter Tryz.func266,Tryz.ntmps266
 go_wp2_with fail
 refine (Tryz.bits_LeadingZeros32 _ _ (by omega) (by omega)).mono ?_
 rintro e w1 ⟨rfl,rfl⟩
 clear l
 generalize (32 - (Lib.bitLen (a % 4294967296).toNat:Int)) = n at *
 go_wp2
 go_ret
 exact ⟨by rw [← HW.out]; rfl,rfl⟩
set_option maxHeartbeats 400000 in
theorem Xy (a b:Int) (w:World) (ha:-2147483648≤a∧a≤2147483647) (hb:-2147483648≤b∧b≤2147483647) :
 Calls Tryz.prog 224 #[.int .i32 a,.int .i32 b] w fun e w' => e = .returned (.int .i32 (Hy a b))∧ah w w' []:=by
 have e:Hy a b = wrap32 (wrap64 (a * b) % 4294967296):=by
  unfold Hy
  generalize a * b = p
  unfold wrap64; congr 1; omega
 rw [e]
 clear e
 go_enter Tryz.func224,Tryz.ntmps224
 go_wp2
 go_ret
 exact ⟨rfl,(ah.refl w []).alloc _⟩
theorem TY (x:Int):bits BinOp.and IntKind.i64 x 1 = x % 2:=by
 show IntKind.i64.wrap ((BitVec.ofInt 64 x &&& BitVec.ofInt 64 1).toNat:Int) = _
 have h2:(BitVec.ofInt 64 1).toNat = 1:=by decide
 rw [BitVec.toNat_and,h2,Nat.and_one_is_mod,IntKind.wrap_i64,BitVec.toNat_ofInt]
 omega
set_option maxHeartbeats 400000 in
theorem Qs (w:World):Calls Tryz.prog 243 #[.int .i64 30] w fun e w' => e = .returned (.agg #[.func (.func 264) #[] #[.pointer (some ⟨w.heap.size,0,none⟩)]])∧ah w w' []∧w'.cell? ⟨w.heap.size,0,none⟩ = some (.int .i64 30)∧w.heap.size < w'.heap.size:=by
 have hc:=(aB.new w 3 [.int .i64 30])
 have hz:=aB.new (w.alloc (.cells #[.int .i64 30] 3)) 319 [(.func (.func 264) #[] #[.pointer (some ⟨w.heap.size,0,none⟩)])]
 have h1:=hc.alloc (.cells #[(.func (.func 264) #[] #[.pointer (some ⟨w.heap.size,0,none⟩)])] 319)
 have c1:=h1.cell' (i:=0) rfl
 have c2:=hz.cell' (i:=0) rfl
 rw [size_alloc] at c2
 have HC:=hide (((ah.refl w []).alloc (.cells #[.int .i64 30] 3)).alloc (.cells #[(.func (.func 264) #[] #[.pointer (some ⟨w.heap.size,0,none⟩)])] 319))
 clear hc hz h1
 go_enter Tryz.func243,Tryz.ntmps243
 go_wp2
 refine bodyPost_ret (v:=.agg #[.func (.func 264) #[] #[.pointer (some ⟨w.heap.size,0,none⟩)]]) ?_ rfl ⟨rfl,HC.out,c1,by simp; omega⟩
 simp [results,Tryz.f243,go_sem,c2]
set_option maxHeartbeats 400000 in
theorem NU (x:Int) (p:Addr) (w:World) (hp:w.cell? p = some (.int .i64 30)) (hx:-4611686018427387904≤x∧x≤4611686018427387904):Calls Tryz.prog 264 #[.int .i64 x,.pointer (some p)] w fun e w' => e = .returned (.int .i32 (lW (x / 1073741824 + x / 536870912 % 2)))∧w = w':=by
 have hb:=TY (x / 536870912)
 have hw:wrap64 (x / 1073741824 + x / 536870912 % 2) = x / 1073741824 + x / 536870912 % 2:=by unfold wrap64; omega
 go_enter Tryz.func264,Tryz.ntmps264
 go_wp2
 go_ret
 exact ⟨by simp only [lW]; rfl,rfl⟩
theorem prod_bound {a b:Int} (ha:-2147483648≤a∧a≤2147483647) (hb:-2147483648≤b∧b≤2147483647):-4611686018427387904≤a * b∧a * b≤4611686018427387904:=by
 have h:(a * b).natAbs≤2147483648 * 2147483648:=by
  rw [Int.natAbs_mul]; exact Nat.mul_le_mul (by omega) (by omega)
 omega
set_option maxHeartbeats 400000 in
theorem acT (a b:Int) (p:Addr) (w:World) (ha:-2147483648≤a∧a≤2147483647) (hb:-2147483648≤b∧b≤2147483647) (hp:w.cell? p = some (.int .i64 30)) :
 Calls Tryz.prog 241 #[.agg #[.func (.func 264) #[] #[.pointer (some p)]],.int .i32 a,.int .i32 b] w fun e w' => e = .returned (.int .i32 (E_ a b))∧ah w w' []:=by
 have hpb:=prod_bound ha hb
 have hm:wrap64 (a * b) = a * b:=by generalize a * b = p at *; unfold wrap64; omega
 have hp1:=fun o => ((ah.refl w []).alloc o).cell hp (by simp)
 go_enter Tryz.func241,Tryz.ntmps241
 go_wp2_with fail
 refine (NU _ _ _ (hp1 _) hpb).mono ?_
 rintro e w1 ⟨rfl,rfl⟩
 go_wp2
 go_ret
 exact ⟨rfl,(ah.refl w []).alloc _⟩
set_option maxHeartbeats 400000 in
theorem Xz (a b:Int) (w:World) (ha:-2147483648≤a∧a≤2147483647) (hb:-2147483648≤b∧b≤2147483647) :
 Calls Tryz.prog 226 #[.int .i32 a,.int .i32 b] w fun e w' => e = .returned (.int .i32 (E_ a b))∧ah w w' []:=by
 go_enter Tryz.func226,Tryz.ntmps226
 go_wp2_with fail
 refine (Qs _).mono ?_
 rintro e w1 ⟨rfl,hc,hp,_⟩
 have HC:=hide hc
 clear hc
 go_wp2_with fail
 refine (acT a b _ _ ha hb hp).mono ?_
 rintro e w2 ⟨rfl,hc⟩
 have HC2:=hide hc
 clear hc
 go_wp2
 go_ret
 exact ⟨rfl,HC.out.trans HC2.out (by simp)⟩
def acU (a b:Int):Int:=wrap32 (a + b)
def acV (a b:Int):Int:=wrap32 (a - b)
def Hz (a b:Int):Int:=bits BinOp.and IntKind.i32 a b
def Qu (a b:Int):Int:=bits BinOp.or IntKind.i32 a b
def acW (a b:Int):Int:=bits BinOp.xor IntKind.i32 a b
def H6 (a b:Int):Int:=bits BinOp.andNot IntKind.i32 a b
abbrev aC (a:Int):Prop:=-2147483648≤a∧a≤2147483647
set_option maxRecDepth 100000 in
set_option maxHeartbeats 1000000 in
theorem ahP (a b:Int) (w:World) (ha:aC a) (hb:aC b):Calls Tryz.prog 169 #[.int .i64 1,.int .i32 a,.int .i32 b] w fun e w' => e = .returned (.tuple #[.int .i32 (acU a b),.bool true])∧ah w w' []:=by
 have HC:=hide (ah.refl w [])
 go_enter Tryz.func169,Tryz.ntmps169
 go_wp2
 go_ret2
 exact ⟨rfl,HC.out⟩
set_option maxRecDepth 100000 in
set_option maxHeartbeats 1000000 in
theorem ahQ (a b:Int) (w:World) (ha:aC a) (hb:aC b):Calls Tryz.prog 169 #[.int .i64 2,.int .i32 a,.int .i32 b] w fun e w' => e = .returned (.tuple #[.int .i32 (acV a b),.bool true])∧ah w w' []:=by
 have HC:=hide (ah.refl w [])
 go_enter Tryz.func169,Tryz.ntmps169
 go_wp2
 go_ret2
 exact ⟨rfl,HC.out⟩
set_option maxRecDepth 100000 in
set_option maxHeartbeats 1000000 in
theorem afN (a b:Int) (w:World) (ha:aC a) (hb:aC b):Calls Tryz.prog 169 #[.int .i64 3,.int .i32 a,.int .i32 b] w fun e w' => e = .returned (.tuple #[.int .i32 (E5 a b),.bool true])∧ah w w' []:=by
 go_enter Tryz.func169,Tryz.ntmps169
 go_wp2_with fail
 refine (Xv a b _ ha hb).mono ?_
 rintro e w1 ⟨rfl,hc⟩
 have HC:=hide hc
 clear hc
 go_wp2
 go_ret2
 exact ⟨rfl,HC.out⟩
set_option maxRecDepth 100000 in
set_option maxHeartbeats 1000000 in
theorem afO (a b:Int) (w:World) (ha:aC a) (hb:aC b):Calls Tryz.prog 169 #[.int .i64 4,.int .i32 a,.int .i32 b] w fun e w' => e = .returned (.tuple #[.int .i32 (E8 a b),.bool true])∧ah w w' []:=by
 go_enter Tryz.func169,Tryz.ntmps169
 go_wp2_with fail
 refine (Xw a b _ ha hb).mono ?_
 rintro e w1 ⟨rfl,hc⟩
 have HC:=hide hc
 clear hc
 go_wp2
 go_ret2
 exact ⟨rfl,HC.out⟩
set_option maxRecDepth 100000 in
set_option maxHeartbeats 1000000 in
theorem ahR (a b:Int) (w:World) (ha:aC a) (hb:aC b):Calls Tryz.prog 169 #[.int .i64 5,.int .i32 a,.int .i32 b] w fun e w' => e = .returned (.tuple #[.int .i32 (Hz a b),.bool true])∧ah w w' []:=by
 have HC:=hide (ah.refl w [])
 go_enter Tryz.func169,Tryz.ntmps169
 go_wp2
 go_ret2
 exact ⟨rfl,HC.out⟩
set_option maxRecDepth 100000 in
set_option maxHeartbeats 1000000 in
theorem ak6 (a b:Int) (w:World) (ha:aC a) (hb:aC b):Calls Tryz.prog 169 #[.int .i64 6,.int .i32 a,.int .i32 b] w fun e w' => e = .returned (.tuple #[.int .i32 (Qu a b),.bool true])∧ah w w' []:=by
 have HC:=hide (ah.refl w [])
 go_enter Tryz.func169,Tryz.ntmps169
 go_wp2
 go_ret2
 exact ⟨rfl,HC.out⟩
set_option maxRecDepth 100000 in
set_option maxHeartbeats 1000000 in
theorem ahS (a b:Int) (w:World) (ha:aC a) (hb:aC b):Calls Tryz.prog 169 #[.int .i64 7,.int .i32 a,.int .i32 b] w fun e w' => e = .returned (.tuple #[.int .i32 (acW a b),.bool true])∧ah w w' []:=by
 have HC:=hide (ah.refl w [])
 go_enter Tryz.func169,Tryz.ntmps169
 go_wp2
 go_ret2
 exact ⟨rfl,HC.out⟩
set_option maxRecDepth 100000 in
set_option maxHeartbeats 1000000 in
theorem ahT (a b:Int) (w:World) (ha:aC a) (hb:aC b):Calls Tryz.prog 169 #[.int .i64 8,.int .i32 a,.int .i32 b] w fun e w' => e = .returned (.tuple #[.int .i32 (H6 a b),.bool true])∧ah w w' []:=by
 have HC:=hide (ah.refl w [])
 go_enter Tryz.func169,Tryz.ntmps169
 go_wp2
 go_ret2
 exact ⟨rfl,HC.out⟩
set_option maxRecDepth 100000 in
set_option maxHeartbeats 1000000 in
theorem ahU (a b:Int) (w:World) (ha:aC a) (hb:aC b):Calls Tryz.prog 169 #[.int .i64 9,.int .i32 a,.int .i32 b] w fun e w' => e = .returned (.tuple #[.int .i32 (xW a b),.bool true])∧ah w w' []:=by
 go_enter Tryz.func169,Tryz.ntmps169
 go_wp2_with fail
 refine (ZT a b _).mono ?_
 rintro e w1 ⟨rfl,hc⟩
 have HC:=hide hc
 clear hc
 go_wp2
 go_ret2
 exact ⟨rfl,HC.out⟩
set_option maxRecDepth 100000 in
set_option maxHeartbeats 1000000 in
theorem ahV (a b:Int) (w:World) (ha:aC a) (hb:aC b):Calls Tryz.prog 169 #[.int .i64 10,.int .i32 a,.int .i32 b] w fun e w' => e = .returned (.tuple #[.int .i32 (DV a b),.bool true])∧ah w w' []:=by
 go_enter Tryz.func169,Tryz.ntmps169
 go_wp2_with fail
 refine (ZU a b _).mono ?_
 rintro e w1 ⟨rfl,hc⟩
 have HC:=hide hc
 clear hc
 go_wp2
 go_ret2
 exact ⟨rfl,HC.out⟩
set_option maxRecDepth 100000 in
set_option maxHeartbeats 1000000 in
theorem ahW (a b:Int) (w:World) (ha:aC a) (hb:aC b):Calls Tryz.prog 169 #[.int .i64 11,.int .i32 a,.int .i32 b] w fun e w' => e = .returned (.tuple #[.int .i32 (KW a b),.bool true])∧ah w w' []:=by
 go_enter Tryz.func169,Tryz.ntmps169
 go_wp2_with fail
 refine (ZR a b _).mono ?_
 rintro e w1 ⟨rfl,hc⟩
 have HC:=hide hc
 clear hc
 go_wp2
 go_ret2
 exact ⟨rfl,HC.out⟩
set_option maxRecDepth 100000 in
set_option maxHeartbeats 1000000 in
theorem ahX (a b:Int) (w:World) (ha:aC a) (hb:aC b):Calls Tryz.prog 169 #[.int .i64 13,.int .i32 a,.int .i32 b] w fun e w' => e = .returned (.tuple #[.int .i32 (z_ a b),.bool true])∧ah w w' []:=by
 have HC:=hide (ah.refl w [])
 go_enter Tryz.func169,Tryz.ntmps169
 go_wp2_with fail
 refine (Xq a b _).mono ?_
 rintro e w1 ⟨rfl,rfl⟩
 go_wp2
 go_ret2
 exact ⟨rfl,HC.out⟩
set_option maxRecDepth 100000 in
set_option maxHeartbeats 1000000 in
theorem afP (a b:Int) (w:World) (ha:aC a) (hb:aC b):Calls Tryz.prog 169 #[.int .i64 14,.int .i32 a,.int .i32 b] w fun e w' => e = .returned (.tuple #[.int .i32 (sV a b),.bool true])∧ah w w' []:=by
 have HC:=hide (ah.refl w [])
 go_enter Tryz.func169,Tryz.ntmps169
 go_wp2_with fail
 refine (TW a b _).mono ?_
 rintro e w1 ⟨rfl,rfl⟩
 go_wp2
 go_ret2
 exact ⟨rfl,HC.out⟩
set_option maxRecDepth 100000 in
set_option maxHeartbeats 1000000 in
theorem ahY (a b:Int) (w:World) (ha:aC a) (hb:aC b):Calls Tryz.prog 169 #[.int .i64 15,.int .i32 a,.int .i32 b] w fun e w' => e = .returned (.tuple #[.int .i32 (Aa a b),.bool true])∧ah w w' []:=by
 have HC:=hide (ah.refl w [])
 go_enter Tryz.func169,Tryz.ntmps169
 go_wp2_with fail
 refine (Xr a b _).mono ?_
 rintro e w1 ⟨rfl,rfl⟩
 go_wp2
 go_ret2
 exact ⟨rfl,HC.out⟩
set_option maxRecDepth 100000 in
set_option maxHeartbeats 1000000 in
theorem T_ (a b:Int) (w:World) (ha:aC a) (hb:aC b):Calls Tryz.prog 198 #[.int .i64 18,.int .i32 a,.int .i32 b] w fun e w' => e = .returned (.tuple #[.int .i32 (Hy a b),.bool true])∧ah w w' []:=by
 go_enter Tryz.func198,Tryz.ntmps198
 go_wp2_with fail
 refine (Xy a b _ ha hb).mono ?_
 rintro e w1 ⟨rfl,hc⟩
 have HC:=hide hc
 clear hc
 go_wp2
 go_ret2
 exact ⟨rfl,HC.out⟩
set_option maxRecDepth 100000 in
set_option maxHeartbeats 1000000 in
theorem ahZ (a b:Int) (w:World) (ha:aC a) (hb:aC b):Calls Tryz.prog 169 #[.int .i64 18,.int .i32 a,.int .i32 b] w fun e w' => e = .returned (.tuple #[.int .i32 (Hy a b),.bool true])∧ah w w' []:=by
 go_enter Tryz.func169,Tryz.ntmps169
 go_wp2_with fail
 refine (T_ a b _ ha hb).mono ?_
 rintro e w1 ⟨rfl,hc⟩
 have HC:=hide hc
 clear hc
 go_wp2
 go_ret2
 exact ⟨rfl,HC.out⟩
set_option maxRecDepth 100000 in
set_option maxHeartbeats 1000000 in
theorem Qv (a b:Int) (w:World) (ha:aC a) (hb:aC b):Calls Tryz.prog 198 #[.int .i64 20,.int .i32 a,.int .i32 b] w fun e w' => e = .returned (.tuple #[.int .i32 (E_ a b),.bool true])∧ah w w' []:=by
 go_enter Tryz.func198,Tryz.ntmps198
 go_wp2_with fail
 refine (Xz a b _ ha hb).mono ?_
 rintro e w1 ⟨rfl,hc⟩
 have HC:=hide hc
 clear hc
 go_wp2
 go_ret2
 exact ⟨rfl,HC.out⟩
set_option maxRecDepth 100000 in
set_option maxHeartbeats 1000000 in
theorem afQ (a b:Int) (w:World) (ha:aC a) (hb:aC b):Calls Tryz.prog 169 #[.int .i64 20,.int .i32 a,.int .i32 b] w fun e w' => e = .returned (.tuple #[.int .i32 (E_ a b),.bool true])∧ah w w' []:=by
 go_enter Tryz.func169,Tryz.ntmps169
 go_wp2_with fail
 refine (Qv a b _ ha hb).mono ?_
 rintro e w1 ⟨rfl,hc⟩
 have HC:=hide hc
 clear hc
 go_wp2
 go_ret2
 exact ⟨rfl,HC.out⟩
set_option maxRecDepth 100000 in
set_option maxHeartbeats 1000000 in
theorem XA (a:Int) (w:World) (ha:aC a):Calls Tryz.prog 245 #[.int .i32 a] w fun e w' => e = .returned (.int .i32 (xY a))∧ah w w' []:=by
 have HC:=hide (ah.refl w [])
 go_enter Tryz.func245,Tryz.ntmps245
 go_wp2_with fail
 refine (ZW a _ ha).mono ?_
 rintro e w1 ⟨rfl,rfl⟩
 go_wp2
 go_ret
 exact ⟨rfl,HC.out⟩
set_option maxRecDepth 100000 in
set_option maxHeartbeats 1000000 in
theorem ZX (a:Int) (w:World) (ha:aC a):Calls Tryz.prog 244 #[.func (.func 245) #[] #[],.int .i32 a] w fun e w' => e = .returned (.tuple #[.int .i32 (xY a),.bool true])∧ah w w' []:=by
 go_enter Tryz.func244,Tryz.ntmps244
 go_wp2_with fail
 refine (XA a _ ha).mono ?_
 rintro e w1 ⟨rfl,hc⟩
 have HC:=hide hc
 clear hc
 go_wp2
 go_ret2
 exact ⟨rfl,HC.out⟩
set_option maxRecDepth 100000 in
set_option maxHeartbeats 1000000 in
theorem ZY (a:Int) (w:World) (ha:aC a):Calls Tryz.prog 228 #[.int .i64 24,.int .i32 a] w fun e w' => e = .returned (.tuple #[.int .i32 (xY a),.bool true])∧ah w w' []:=by
 go_enter Tryz.func228,Tryz.ntmps228
 go_wp2_with fail
 refine (ZX a _ ha).mono ?_
 rintro e w1 ⟨rfl,hc⟩
 have HC:=hide hc
 clear hc
 go_wp2
 go_ret2
 exact ⟨rfl,HC.out⟩
set_option maxRecDepth 100000 in
set_option maxHeartbeats 1000000 in
theorem Ua (a b:Int) (w:World) (ha:aC a) (hb:aC b):Calls Tryz.prog 198 #[.int .i64 24,.int .i32 a,.int .i32 b] w fun e w' => e = .returned (.tuple #[.int .i32 (xY a),.bool true])∧ah w w' []:=by
 go_enter Tryz.func198,Tryz.ntmps198
 go_wp2_with fail
 refine (ZY a _ ha).mono ?_
 rintro e w1 ⟨rfl,hc⟩
 have HC:=hide hc
 clear hc
 go_wp2
 go_ret2
 exact ⟨rfl,HC.out⟩
set_option maxRecDepth 100000 in
set_option maxHeartbeats 1000000 in
theorem ah0 (a b:Int) (w:World) (ha:aC a) (hb:aC b):Calls Tryz.prog 169 #[.int .i64 24,.int .i32 a,.int .i32 b] w fun e w' => e = .returned (.tuple #[.int .i32 (xY a),.bool true])∧ah w w' []:=by
 go_enter Tryz.func169,Tryz.ntmps169
 go_wp2_with fail
 refine (Ua a b _ ha hb).mono ?_
 rintro e w1 ⟨rfl,hc⟩
 have HC:=hide hc
 clear hc
 go_wp2
 go_ret2
 exact ⟨rfl,HC.out⟩
set_option maxRecDepth 100000 in
set_option maxHeartbeats 1000000 in
theorem XB (a:Int) (w:World) (ha:aC a):Calls Tryz.prog 246 #[.int .i32 a] w fun e w' => e = .returned (.int .i32 (uX a))∧ah w w' []:=by
 go_enter Tryz.func246,Tryz.ntmps246
 go_wp2_with fail
 refine (Jo a _ ha).mono ?_
 rintro e w1 ⟨rfl,hc⟩
 have HC:=hide hc
 clear hc
 go_wp2
 go_ret
 exact ⟨rfl,HC.out⟩
set_option maxRecDepth 100000 in
set_option maxHeartbeats 1000000 in
theorem Z4 (a:Int) (w:World) (ha:aC a):Calls Tryz.prog 244 #[.func (.func 246) #[] #[],.int .i32 a] w fun e w' => e = .returned (.tuple #[.int .i32 (uX a),.bool true])∧ah w w' []:=by
 go_enter Tryz.func244,Tryz.ntmps244
 go_wp2_with fail
 refine (XB a _ ha).mono ?_
 rintro e w1 ⟨rfl,hc⟩
 have HC:=hide hc
 clear hc
 go_wp2
 go_ret2
 exact ⟨rfl,HC.out⟩
set_option maxRecDepth 100000 in
set_option maxHeartbeats 1000000 in
theorem Z5 (a:Int) (w:World) (ha:aC a):Calls Tryz.prog 228 #[.int .i64 25,.int .i32 a] w fun e w' => e = .returned (.tuple #[.int .i32 (uX a),.bool true])∧ah w w' []:=by
 go_enter Tryz.func228,Tryz.ntmps228
 go_wp2_with fail
 refine (Z4 a _ ha).mono ?_
 rintro e w1 ⟨rfl,hc⟩
 have HC:=hide hc
 clear hc
 go_wp2
 go_ret2
 exact ⟨rfl,HC.out⟩
set_option maxRecDepth 100000 in
set_option maxHeartbeats 1000000 in
theorem Ub (a b:Int) (w:World) (ha:aC a) (hb:aC b):Calls Tryz.prog 198 #[.int .i64 25,.int .i32 a,.int .i32 b] w fun e w' => e = .returned (.tuple #[.int .i32 (uX a),.bool true])∧ah w w' []:=by
 go_enter Tryz.func198,Tryz.ntmps198
 go_wp2_with fail
 refine (Z5 a _ ha).mono ?_
 rintro e w1 ⟨rfl,hc⟩
 have HC:=hide hc
 clear hc
 go_wp2
 go_ret2
 exact ⟨rfl,HC.out⟩
set_option maxRecDepth 100000 in
set_option maxHeartbeats 1000000 in
theorem ah1 (a b:Int) (w:World) (ha:aC a) (hb:aC b):Calls Tryz.prog 169 #[.int .i64 25,.int .i32 a,.int .i32 b] w fun e w' => e = .returned (.tuple #[.int .i32 (uX a),.bool true])∧ah w w' []:=by
 go_enter Tryz.func169,Tryz.ntmps169
 go_wp2_with fail
 refine (Ub a b _ ha hb).mono ?_
 rintro e w1 ⟨rfl,hc⟩
 have HC:=hide hc
 clear hc
 go_wp2
 go_ret2
 exact ⟨rfl,HC.out⟩
set_option maxRecDepth 100000 in
set_option maxHeartbeats 1000000 in
theorem XC (a:Int) (w:World) (ha:aC a):Calls Tryz.prog 247 #[.int .i32 a] w fun e w' => e = .returned (.int .i32 (xX a))∧ah w w' []:=by
 go_enter Tryz.func247,Tryz.ntmps247
 go_wp2_with fail
 refine (Xx a _ ha).mono ?_
 rintro e w1 ⟨rfl,hc⟩
 have HC:=hide hc
 clear hc
 go_wp2
 go_ret
 exact ⟨rfl,HC.out⟩
set_option maxRecDepth 100000 in
set_option maxHeartbeats 1000000 in
theorem Z7 (a:Int) (w:World) (ha:aC a):Calls Tryz.prog 244 #[.func (.func 247) #[] #[],.int .i32 a] w fun e w' => e = .returned (.tuple #[.int .i32 (xX a),.bool true])∧ah w w' []:=by
 go_enter Tryz.func244,Tryz.ntmps244
 go_wp2_with fail
 refine (XC a _ ha).mono ?_
 rintro e w1 ⟨rfl,hc⟩
 have HC:=hide hc
 clear hc
 go_wp2
 go_ret2
 exact ⟨rfl,HC.out⟩
set_option maxRecDepth 100000 in
set_option maxHeartbeats 1000000 in
theorem Z8 (a:Int) (w:World) (ha:aC a):Calls Tryz.prog 228 #[.int .i64 26,.int .i32 a] w fun e w' => e = .returned (.tuple #[.int .i32 (xX a),.bool true])∧ah w w' []:=by
 go_enter Tryz.func228,Tryz.ntmps228
 go_wp2_with fail
 refine (Z7 a _ ha).mono ?_
 rintro e w1 ⟨rfl,hc⟩
 have HC:=hide hc
 clear hc
 go_wp2
 go_ret2
 exact ⟨rfl,HC.out⟩
set_option maxRecDepth 100000 in
set_option maxHeartbeats 1000000 in
theorem Uc (a b:Int) (w:World) (ha:aC a) (hb:aC b):Calls Tryz.prog 198 #[.int .i64 26,.int .i32 a,.int .i32 b] w fun e w' => e = .returned (.tuple #[.int .i32 (xX a),.bool true])∧ah w w' []:=by
 go_enter Tryz.func198,Tryz.ntmps198
 go_wp2_with fail
 refine (Z8 a _ ha).mono ?_
 rintro e w1 ⟨rfl,hc⟩
 have HC:=hide hc
 clear hc
 go_wp2
 go_ret2
 exact ⟨rfl,HC.out⟩
set_option maxRecDepth 100000 in
set_option maxHeartbeats 1000000 in
theorem ah2 (a b:Int) (w:World) (ha:aC a) (hb:aC b):Calls Tryz.prog 169 #[.int .i64 26,.int .i32 a,.int .i32 b] w fun e w' => e = .returned (.tuple #[.int .i32 (xX a),.bool true])∧ah w w' []:=by
 go_enter Tryz.func169,Tryz.ntmps169
 go_wp2_with fail
 refine (Uc a b _ ha hb).mono ?_
 rintro e w1 ⟨rfl,hc⟩
 have HC:=hide hc
 clear hc
 go_wp2
 go_ret2
 exact ⟨rfl,HC.out⟩
set_option maxRecDepth 100000 in
set_option maxHeartbeats 1000000 in
theorem Ud (a:Int) (w:World) (ha:aC a):Calls Tryz.prog 249 #[.int .i32 a] w fun e w' => e = .returned (.int .i32 (wG a))∧ah w w' []:=by
 have HC:=hide (ah.refl w [])
 go_enter Tryz.func249,Tryz.ntmps249
 go_wp2_with fail
 refine (Xt a _).mono ?_
 rintro e w1 ⟨rfl,rfl⟩
 go_wp2
 go_ret
 exact ⟨rfl,HC.out⟩
set_option maxRecDepth 100000 in
set_option maxHeartbeats 1000000 in
theorem XD (a:Int) (w:World) (ha:aC a):Calls Tryz.prog 244 #[.func (.func 249) #[] #[],.int .i32 a] w fun e w' => e = .returned (.tuple #[.int .i32 (wG a),.bool true])∧ah w w' []:=by
 go_enter Tryz.func244,Tryz.ntmps244
 go_wp2_with fail
 refine (Ud a _ ha).mono ?_
 rintro e w1 ⟨rfl,hc⟩
 have HC:=hide hc
 clear hc
 go_wp2
 go_ret2
 exact ⟨rfl,HC.out⟩
set_option maxRecDepth 100000 in
set_option maxHeartbeats 1000000 in
theorem XE (a:Int) (w:World) (ha:aC a):Calls Tryz.prog 228 #[.int .i64 28,.int .i32 a] w fun e w' => e = .returned (.tuple #[.int .i32 (wG a),.bool true])∧ah w w' []:=by
 go_enter Tryz.func228,Tryz.ntmps228
 go_wp2_with fail
 refine (XD a _ ha).mono ?_
 rintro e w1 ⟨rfl,hc⟩
 have HC:=hide hc
 clear hc
 go_wp2
 go_ret2
 exact ⟨rfl,HC.out⟩
set_option maxRecDepth 100000 in
set_option maxHeartbeats 1000000 in
theorem Qw (a b:Int) (w:World) (ha:aC a) (hb:aC b):Calls Tryz.prog 198 #[.int .i64 28,.int .i32 a,.int .i32 b] w fun e w' => e = .returned (.tuple #[.int .i32 (wG a),.bool true])∧ah w w' []:=by
 go_enter Tryz.func198,Tryz.ntmps198
 go_wp2_with fail
 refine (XE a _ ha).mono ?_
 rintro e w1 ⟨rfl,hc⟩
 have HC:=hide hc
 clear hc
 go_wp2
 go_ret2
 exact ⟨rfl,HC.out⟩
set_option maxRecDepth 100000 in
set_option maxHeartbeats 1000000 in
theorem afR (a b:Int) (w:World) (ha:aC a) (hb:aC b):Calls Tryz.prog 169 #[.int .i64 28,.int .i32 a,.int .i32 b] w fun e w' => e = .returned (.tuple #[.int .i32 (wG a),.bool true])∧ah w w' []:=by
 go_enter Tryz.func169,Tryz.ntmps169
 go_wp2_with fail
 refine (Qw a b _ ha hb).mono ?_
 rintro e w1 ⟨rfl,hc⟩
 have HC:=hide hc
 clear hc
 go_wp2
 go_ret2
 exact ⟨rfl,HC.out⟩
def XF (a b:Int):Int:=min a b
def XG (a b:Int):Int:=max a b
set_option maxRecDepth 100000 in
set_option maxHeartbeats 1000000 in
theorem ah3 (a b:Int) (w:World) (ha:aC a) (hb:aC b):Calls Tryz.prog 169 #[.int .i64 16,.int .i32 a,.int .i32 b] w fun e w' => e = .returned (.tuple #[.int .i32 (XF a b),.bool true])∧ah w w' []:=by
 have HC:=hide (ah.refl w [])
 go_enter Tryz.func169,Tryz.ntmps169
 go_wp2
 go_ret2
 exact ⟨rfl,HC.out⟩
set_option maxRecDepth 100000 in
set_option maxHeartbeats 1000000 in
theorem ah4 (a b:Int) (w:World) (ha:aC a) (hb:aC b):Calls Tryz.prog 169 #[.int .i64 17,.int .i32 a,.int .i32 b] w fun e w' => e = .returned (.tuple #[.int .i32 (XG a b),.bool true])∧ah w w' []:=by
 have HC:=hide (ah.refl w [])
 go_enter Tryz.func169,Tryz.ntmps169
 go_wp2
 go_ret2
 exact ⟨rfl,HC.out⟩
theorem mY (n:Int):aC (wrap32 n):=by unfold aC wrap32; omega
theorem Jp (n:Int):aC (lW n):=by unfold aC lW; omega
theorem ah5 (a b:Int):aC (acU a b):=mY _
theorem ah6 (a b:Int):aC (acV a b):=mY _
theorem afS (a b:Int):aC (E5 a b):=Jp _
theorem afT (a b:Int):aC (E8 a b):=Jp _
theorem yR (n:Int):IntKind.i32.wrap n = wrap32 n:=by rw [IntKind.wrap_i32]; unfold wrap32; rfl
theorem ah7 (a b:Int):aC (Hz a b):=by
 show aC (IntKind.i32.wrap _); rw [yR]; exact mY _
theorem ak7 (a b:Int):aC (Qu a b):=by
 show aC (IntKind.i32.wrap _); rw [yR]; exact mY _
theorem ah8 (a b:Int):aC (acW a b):=by
 show aC (IntKind.i32.wrap _); rw [yR]; exact mY _
theorem ah9 (a b:Int):aC (H6 a b):=by
 show aC (IntKind.i32.wrap _); rw [yR]; exact mY _
theorem Z9 (a b:Int):aC (xW a b):=mY _
theorem ah_ (a b:Int):aC (DV a b):=mY _
theorem Z_ (a b:Int) (h:aC a):aC (KW a b):=by
 unfold aC KW at *
 have h2:(1:Int)≤2 ^ sh b:=by
  have:=Nat.one_le_two_pow (n:=sh b)
  exact_mod_cast this
 generalize (2:Int) ^ sh b = d at *
 constructor
 · rw [Int.le_ediv_iff_mul_le (by omega)]
   have:(2147483648:Int) * 1≤2147483648 * d:=Int.mul_le_mul_of_nonneg_left h2 (by omega)
   omega
 · exact Int.ediv_le_of_le_mul (by omega) (by
    have:(2147483647:Int) * 1≤2147483647 * d:=Int.mul_le_mul_of_nonneg_left h2 (by omega)
    omega)
theorem in_lt (a b:Int):aC (z_ a b):=by unfold aC z_; split <;> omega
theorem aia (a b:Int):aC (sV a b):=by unfold aC sV; split <;> omega
theorem ak8 (a b:Int):aC (Aa a b):=by unfold aC Aa; split <;> omega
theorem aib (a b:Int):aC (Hy a b):=mY _
theorem afU (a b:Int):aC (E_ a b):=Jp _
theorem aac (a:Int):aC (uX a):=Jp _
theorem aic (a:Int) (h:aC a):aC (xX a):=by have:=aac a; unfold aC xX at *; omega
theorem afV (a:Int) (h:aC a):aC (wG a):=by unfold aC wG at *; omega
theorem aie (a:Int):aC (xY a):=by
 have:=Any.bitLen_le32 (a % 4294967296) (by omega) (by omega)
 unfold aC xY; omega
theorem aif (a b:Int) (ha:aC a) (hb:aC b):aC (XF a b):=by unfold aC XF at *; omega
theorem aii (a b:Int) (ha:aC a) (hb:aC b):aC (XG a b):=by unfold aC XG at *; omega
structure Wd where
 v:Int
 ok:aC v
theorem Wd.dS {a b:Wd} (h:a.v = b.v):a = b:=by cases a; cases b; cases h; rfl
def kW (n:Int):Wd:=⟨wrap32 n,mY n⟩
theorem D7 {n:Int} (h:aC n):(kW n).v = n:=by show wrap32 n = n; unfold aC at h; unfold wrap32; omega
def BN (a b:Wd):Wd:=⟨acU a.v b.v,ah5 _ _⟩
def zG (a b:Wd):Wd:=⟨acV a.v b.v,ah6 _ _⟩
def jl (a b:Wd):Wd:=⟨E5 a.v b.v,afS _ _⟩
def yS (a b:Wd):Wd:=⟨E8 a.v b.v,afT _ _⟩
def f_ (a b:Wd):Wd:=⟨Hz a.v b.v,ah7 _ _⟩
def Gu (a b:Wd):Wd:=⟨Qu a.v b.v,ak7 _ _⟩
def Ia (a b:Wd):Wd:=⟨acW a.v b.v,ah8 _ _⟩
def QZ (a b:Wd):Wd:=⟨H6 a.v b.v,ah9 _ _⟩
def D8 (a b:Wd):Wd:=⟨xW a.v b.v,Z9 _ _⟩
def D9 (a b:Wd):Wd:=⟨DV a.v b.v,ah_ _ _⟩
def XY (a b:Wd):Wd:=⟨KW a.v b.v,Z_ _ _ a.ok⟩
def Ld (a b:Wd):Wd:=⟨z_ a.v b.v,in_lt _ _⟩
def Fe (a b:Wd):Wd:=⟨sV a.v b.v,aia _ _⟩
def Q5 (a b:Wd):Wd:=⟨Hy a.v b.v,aib _ _⟩
def aU (a b:Wd):Wd:=⟨E_ a.v b.v,afU _ _⟩
def Le (a b:Wd):Wd:=⟨XF a.v b.v,aif _ _ a.ok b.ok⟩
def Lh (a b:Wd):Wd:=⟨XG a.v b.v,aii _ _ a.ok b.ok⟩
def Lj (a:Wd):Wd:=⟨xY a.v,aie _⟩
def sZ (a:Wd):Wd:=⟨uX a.v,aac _⟩
def ql (a:Wd):Wd:=⟨xX a.v,aic _ a.ok⟩
def yT (a:Wd):Wd:=⟨wG a.v,afV _ a.ok⟩
def D_ (m a b:Wd):Wd:=Gu (f_ a m) (QZ b m)
def OE (x m:Wd):Wd:=zG (Ia x m) m
def Ag (a:Wd) (n:Int):Wd:=⟨xW a.v n,Z9 _ _⟩
def oV (a:Wd) (n:Int):Wd:=⟨KW a.v n,Z_ _ _ a.ok⟩
def qF (a b c:Wd):Wd:=BN (BN (Q5 a a) (Q5 b b)) (Q5 c c)
def Fq (n low high:Wd):Wd:=zG (Gu (Fe n low) (Fe high n)) (kW 1)
def jW (x z h:Wd):Wd:=D8 (aU x z) h
def iG (x:Wd) (l:List Wd):Wd:=l.foldl yS x
def nK (x:Wd) (l:List Wd):Wd:=l.foldl jl x
def jM (x:Wd) (l:List Wd):Wd:=l.foldl (fun s y => jl s (aU y y)) (aU x x)
structure Tm where
 a:Nat
 b:Nat
 less:Bool
def pick (l:List Wd) (k:Nat):Wd:=l.getD k (kW 0)
def term (ps qs:List Wd) (t:Tm):Wd:=aU (pick ps t.a) (pick qs t.b)
def ano (ps qs:List Wd) (s:Wd) (t:Tm):Wd:=bif t.less then yS s (term ps qs t) else jl s (term ps qs t)
def anp (ps qs:List Wd) (t:Tm):Wd:=bif t.less then yS (kW 0) (term ps qs t) else term ps qs t
def uJ (ps qs:List Wd) (t:Tm) (l:List Tm):Wd:=l.foldl (ano ps qs) (anp ps qs t)
structure Q4 where
 a:Wd
 b:Wd
 c:Wd
 d:Wd
def ajj (a b c d e f g h:Wd):Q4:=⟨uJ [a,b,c,d] [e,f,g,h] ⟨0,0,false⟩ [⟨1,1,true⟩,⟨2,2,true⟩,⟨3,3,true⟩],uJ [a,b,c,d] [e,f,g,h] ⟨0,1,false⟩ [⟨1,0,false⟩,⟨2,3,false⟩,⟨3,2,true⟩],uJ [a,b,c,d] [e,f,g,h] ⟨0,2,false⟩ [⟨1,3,true⟩,⟨2,0,false⟩,⟨3,1,false⟩],uJ [a,b,c,d] [e,f,g,h] ⟨0,3,false⟩ [⟨1,2,false⟩,⟨2,1,true⟩,⟨3,0,false⟩]⟩
def JA (a b c d e f g:Wd):Q4:=⟨uJ [a,b,c,d] [e,f,g] ⟨1,0,true⟩ [⟨2,1,true⟩,⟨3,2,true⟩],uJ [a,b,c,d] [e,f,g] ⟨0,0,false⟩ [⟨2,2,false⟩,⟨3,1,true⟩],uJ [a,b,c,d] [e,f,g] ⟨0,1,false⟩ [⟨1,2,true⟩,⟨3,0,false⟩],uJ [a,b,c,d] [e,f,g] ⟨0,2,false⟩ [⟨1,1,false⟩,⟨2,0,true⟩]⟩
def ajk (q0 q1 q2 q3 a0:Wd):Wd:=iG (aU q1 q3) [aU q0 q2,oV a0 1]
def ajl (q0 q1 q2 q3 a1:Wd):Wd:=iG (nK (aU q0 q1) [aU q2 q3]) [oV a1 1]
def ajm (q1 q2 a2:Wd):Wd:=iG (kW 536870912) [aU q1 q1,aU q2 q2,oV a2 1]
def ajn (q0 q1 q2 q3 f0 f1 f2:Wd):Q4 :=
 ⟨oV (iG (aU q1 f1) [aU q2 f0]) 1,iG (oV (nK (aU q3 f0) [aU q0 f1]) 1) [aU q1 f2],iG (oV (iG (aU q3 f1) [aU q0 f0]) 1) [aU q2 f2],oV (nK (aU q1 f0) [aU q2 f1]) 1⟩
def alk (q0 q1 q2 q3 a0 a1 a2:Wd):Q4:=ajn q0 q1 q2 q3 (ajk q0 q1 q2 q3 a0) (ajl q0 q1 q2 q3 a1) (ajm q1 q2 a2)
structure T3 where
 a:Wd
 b:Wd
 c:Wd
def agr (q0 q1 q2 q3 bx bz f0 f1 f2:Wd):T3 :=
 ⟨iG (nK (aU bx (iG (kW 536870912) [aU q2 q2,aU q3 q3])) [aU bz (iG (aU q1 q3) [aU q0 q2])]) [oV f0 1],
  iG (nK (aU bx (iG (aU q1 q2) [aU q0 q3])) [aU bz (nK (aU q0 q1) [aU q2 q3])]) [oV f1 1],
  iG (nK (aU bx (nK (aU q0 q2) [aU q1 q3])) [aU bz (iG (kW 536870912) [aU q1 q1,aU q2 q2])]) [oV f2 1]⟩
def ads (u y:Wd):Wd:=jl y (oV (aU y (yS (kW 1073741824) (Ag (aU u (aU y y)) 2))) 1)
def ae1 (x:Wd):Wd:=f_ (Lj x) (kW 30)
def alm (x:Wd):Wd:=D9 (D8 x (ae1 x)) (kW 2)
def ajo (u:Wd):Wd:=yS (kW 1184766729) (aU (kW 715827883) u)
def ae2 (u:Wd):Nat→Wd
 | 0 => ajo u
 | k + 1 => ads u (ae2 u k)
def gB (x:Wd):Wd × Wd:=(ae2 (alm x) 4,D9 (ae1 x) (kW 1))
def ae3 (x:Wd):Wd:=jW x (gB x).1 (gB x).2
def Ak (x0 x1 x2:Wd):T3:=⟨jW (Ag x0 15) (gB (qF x0 x1 x2)).1 (gB (qF x0 x1 x2)).2,jW (Ag x1 15) (gB (qF x0 x1 x2)).1 (gB (qF x0 x1 x2)).2,jW (Ag x2 15) (gB (qF x0 x1 x2)).1 (gB (qF x0 x1 x2)).2⟩
def aln (x0 x1 x2 x3:Wd):Q4:=⟨jW x0 (gB (jl (jM x0 [x1,x2,x3]) (kW 1024))).1 (gB (jl (jM x0 [x1,x2,x3]) (kW 1024))).2,jW x1 (gB (jl (jM x0 [x1,x2,x3]) (kW 1024))).1 (gB (jl (jM x0 [x1,x2,x3]) (kW 1024))).2,jW x2 (gB (jl (jM x0 [x1,x2,x3]) (kW 1024))).1 (gB (jl (jM x0 [x1,x2,x3]) (kW 1024))).2,jW x3 (gB (jl (jM x0 [x1,x2,x3]) (kW 1024))).1 (gB (jl (jM x0 [x1,x2,x3]) (kW 1024))).2⟩
def sumW (a b c e0 e1 e2:Wd):Wd:=oV (nK (aU a e0) [aU b e1,aU c e2]) 1
def RF (q0 q1 q2 q3 f0 f1 f2:Wd):Q4:=ajj (JA q0 q1 q2 q3 f0 f1 f2).a (JA q0 q1 q2 q3 f0 f1 f2).b (JA q0 q1 q2 q3 f0 f1 f2).c (JA q0 q1 q2 q3 f0 f1 f2).d q0 (sZ q1) (sZ q2) (sZ q3)
def Ef (q0 q1 q2 q3 f0 f1 f2:Wd):Wd:=ae3 (jM (RF q0 q1 q2 q3 f0 f1 f2).b [(RF q0 q1 q2 q3 f0 f1 f2).c])
def Eh (q0 q1 q2 q3 f0 f1 f2:Wd):Wd:=(RF q0 q1 q2 q3 f0 f1 f2).d
def ajp (q0 q1 q2 q3 f0 f1 f2:Wd):T3:=agr q0 q1 q2 q3 (Ef q0 q1 q2 q3 f0 f1 f2) (Eh q0 q1 q2 q3 f0 f1 f2) f0 f1 f2
def ajq (q0 q1 q2 q3 f0 f1 f2:Wd):Q4:=⟨aU (Ef q0 q1 q2 q3 f0 f1 f2) q0,aU (Ef q0 q1 q2 q3 f0 f1 f2) q1,aU (Ef q0 q1 q2 q3 f0 f1 f2) q2,aU (Ef q0 q1 q2 q3 f0 f1 f2) q3⟩
def ajr (q0 q1 q2 q3 f0 f1 f2:Wd):Q4:=⟨aU (Eh q0 q1 q2 q3 f0 f1 f2) q0,aU (Eh q0 q1 q2 q3 f0 f1 f2) q1,aU (Eh q0 q1 q2 q3 f0 f1 f2) q2,aU (Eh q0 q1 q2 q3 f0 f1 f2) q3⟩
def qx (x y:Q4) (e:T3):Q4 :=
 ⟨sumW (sZ y.c) (iG y.b [x.d]) x.c e.a e.b e.c,
  sumW y.d (nK x.c [y.a]) (iG x.d [y.b,y.b]) e.a e.b e.c,
  sumW (sZ (nK x.c [x.c,y.a])) (nK x.b [y.d]) (iG x.a [y.c,y.c]) e.a e.b e.c,
  sumW (iG y.b [x.d,x.d]) (iG y.c [x.a]) x.b e.a e.b e.c⟩
def ajs (q0 q1 q2 q3 f0 f1 f2:Wd):Q4:=qx (ajq q0 q1 q2 q3 f0 f1 f2) (ajr q0 q1 q2 q3 f0 f1 f2) (ajp q0 q1 q2 q3 f0 f1 f2)
def ajt:List Wd:=[kW 421657428,kW 248918915,kW 131521918,kW 66762579,kW 33510843,kW 16771758,kW 8387925,kW 4194219,kW 2097141,kW 1048575,kW 524288,kW 262144,kW 131072,kW 65536,kW 32768,kW 16384,kW 8192,kW 4096,kW 2048,kW 1024,kW 512,kW 256,kW 128,kW 64,kW 32,kW 16,kW 8,kW 4]
def aaL (v s:Wd):Wd:=D9 (D8 v s) (kW 2)
def adt (i:Nat) (x y c:Wd):T3:=⟨BN x (OE (XY y (kW i)) (yT y)),zG y (OE (XY x (kW i)) (yT y)),BN c (OE (ajt.getD i (kW 0)) (yT y))⟩
def OI (x y:Wd):Nat→T3
 | 0 => ⟨x,y,kW 0⟩
 | i + 1 => adt i (OI x y i).a (OI x y i).b (OI x y i).c
def aju (y x:Wd):T3:=OI (aaL (Lh (ql x) (ql y)) (zG (Lj (Lh (ql x) (ql y))) (kW 1))) (aaL (Le (ql x) (ql y)) (zG (Lj (Lh (ql x) (ql y))) (kW 1))) 28
def adu (y x c:Wd):Wd:=D_ (sZ (Ld (ql x) (ql y))) (zG (kW 843314857) c) c
def adv (x b:Wd):Wd:=D_ (yT x) (zG (kW 1686629713) b) b
def ajv (y x:Wd):Wd:=adu y x (aju y x).c
def ajw (y x:Wd):Wd:=adv x (ajv y x)
def RG (y x:Wd):Wd:=OE (ajw y x) (yT y)
def Vw (q0 q1 q2 q3:Wd):Wd:=nK (aU q0 q1) [aU q2 q3]
def Vx (q0 q1 q2 q3:Wd):Wd:=iG (kW 536870912) [aU q1 q1,aU q2 q2]
def Lp (q0 q1 q2 q3:Wd):Wd:=iG (aU q0 q2) [aU q3 q1]
def ags (q0 q1 q2 q3:Wd):Wd:=nK (aU q0 q3) [aU q1 q2]
def agt (q0 q1 q2 q3:Wd):Wd:=iG (kW 536870912) [aU q2 q2,aU q3 q3]
def agu (q0 q1 q2 q3:Wd):Wd:=ae3 (jM (Vx q0 q1 q2 q3) [Vw q0 q1 q2 q3])
def ig (q0 q1 q2 q3:Wd):T3:=⟨RG (Vw q0 q1 q2 q3) (Vx q0 q1 q2 q3),RG (Lp q0 q1 q2 q3) (agu q0 q1 q2 q3),RG (ags q0 q1 q2 q3) (agt q0 q1 q2 q3)⟩
def jw (q0 q1 q2 q3:Wd):Wd:=zG (Ld (ql (Lp q0 q1 q2 q3)) (kW 536000000)) (kW 1)
def alo (x0 x1 x2 x3:Wd):Q4:=⟨jW x0 (gB (jM x0 [x1,x2,x3])).1 (gB (jM x0 [x1,x2,x3])).2,jW x1 (gB (jM x0 [x1,x2,x3])).1 (gB (jM x0 [x1,x2,x3])).2,jW x2 (gB (jM x0 [x1,x2,x3])).1 (gB (jM x0 [x1,x2,x3])).2,jW x3 (gB (jM x0 [x1,x2,x3])).1 (gB (jM x0 [x1,x2,x3])).2⟩
def alp (x:Wd):Wd:=Le (Lh x (kW (-134217728))) (kW 134217728)
def OJ (q r b ga:Wd):Wd:=jl q (alp (yS r (f_ (oV b 8) ga)))
def wS (a0 a1 a2:Wd):Wd:=Fq (qF a0 a1 a2) (kW 16777216) (kW 150994944)
def wU (m0 m1 m2:Wd):Wd:=Fq (qF m0 m1 m2) (kW 1000000) (kW 400000000)
def agv (q0 q1 q2 q3 a0 a1 a2:Wd):Q4:=alk q0 q1 q2 q3 (Ak a0 a1 a2).a (Ak a0 a1 a2).b (Ak a0 a1 a2).c
def agw (q0 q1 q2 q3 m0 m1 m2:Wd):Q4:=ajs q0 q1 q2 q3 (Ak m0 m1 m2).a (Ak m0 m1 m2).b (Ak m0 m1 m2).c
def ajx (P N:Q4) (gm:Wd):Q4:=⟨jl P.a (f_ N.a gm),jl P.b (f_ N.b gm),jl P.c (f_ N.c gm),jl P.d (f_ N.d gm)⟩
def ajy (D:Q4):Q4:=aln D.a D.b D.c D.d
def ajz (q0 q1 q2 q3 g0 g1 g2:Wd):Q4:=JA q0 q1 q2 q3 (Ag g0 12) (Ag g1 12) (Ag g2 12)
def stepOf (q0 q1 q2 q3:Wd) (R E:Q4) (ga:Wd):Q4:=alo (OJ q0 R.a E.a ga) (OJ q1 R.b E.b ga) (OJ q2 R.c E.c ga) (OJ q3 R.d E.d ga)
def agx (q0 q1 q2 q3 a0 a1 a2 m0 m1 m2:Wd):Q4:=ajy (ajx (agv q0 q1 q2 q3 a0 a1 a2) (agw q0 q1 q2 q3 m0 m1 m2) (wU m0 m1 m2))
def Vy (q0 q1 q2 q3 g0 g1 g2 a0 a1 a2 m0 m1 m2:Wd):Q4:=stepOf q0 q1 q2 q3 (ajz q0 q1 q2 q3 g0 g1 g2) (agx q0 q1 q2 q3 a0 a1 a2 m0 m1 m2) (wS a0 a1 a2)
end Go.Proofs.YtjegdngblndkcaaGreatDoor

/- Words and masks: all ones, or 0. -/
namespace Go.Proofs.YtjegdngblndkcaaGreatDoor
open Go.RowKit
set_option linter.unusedVariables false
theorem abb:BitVec.ofInt 32 (-1) = BitVec.allOnes 32:=by decide
theorem FN:BitVec.ofInt 32 0 = 0#32:=by decide
theorem agV {x:Int} (h:aC x):Hz x (-1) = x:=by
 show IntKind.i32.wrap ((BitVec.ofInt 32 x &&& BitVec.ofInt 32 (-1)).toNat:Int) = _
 rw [abb,BitVec.and_allOnes,IntKind.wrap_i32,BitVec.toNat_ofInt]
 unfold aC at h
 omega
theorem adW (x:Int):Hz x 0 = 0:=by
 show IntKind.i32.wrap ((BitVec.ofInt 32 x &&& BitVec.ofInt 32 0).toNat:Int) = _
 rw [FN,BitVec.and_zero]
 decide
theorem or_none {x:Int} (h:aC x):Qu x 0 = x:=by
 show IntKind.i32.wrap ((BitVec.ofInt 32 x ||| BitVec.ofInt 32 0).toNat:Int) = _
 rw [FN,BitVec.or_zero,IntKind.wrap_i32,BitVec.toNat_ofInt]
 unfold aC at h
 omega
theorem none_or {x:Int} (h:aC x):Qu 0 x = x:=by
 show IntKind.i32.wrap ((BitVec.ofInt 32 0 ||| BitVec.ofInt 32 x).toNat:Int) = _
 rw [FN,BitVec.zero_or,IntKind.wrap_i32,BitVec.toNat_ofInt]
 unfold aC at h
 omega
theorem adX {x:Int} (h:aC x):H6 x 0 = x:=by
 show IntKind.i32.wrap ((BitVec.ofInt 32 x &&& ~~~BitVec.ofInt 32 0).toNat:Int) = _
 rw [FN,BitVec.not_zero,BitVec.and_allOnes,IntKind.wrap_i32,BitVec.toNat_ofInt]
 unfold aC at h
 omega
theorem agW {x:Int} (h:aC x):H6 x (-1) = 0:=by
 show IntKind.i32.wrap ((BitVec.ofInt 32 x &&& ~~~BitVec.ofInt 32 (-1)).toNat:Int) = _
 rw [abb,BitVec.not_allOnes,BitVec.and_zero]
 decide
theorem agX (a b:Wd):D_ (kW (-1)) a b = a:=Wd.dS (by
 show Qu (Hz a.v (kW (-1)).v) (H6 b.v (kW (-1)).v) = a.v
 rw [D7 (by decide),agV a.ok,agW b.ok,or_none a.ok])
theorem adY (a b:Wd):D_ (kW 0) a b = b:=Wd.dS (by
 show Qu (Hz a.v (kW 0).v) (H6 b.v (kW 0).v) = b.v
 rw [D7 (by decide),adW,adX b.ok,none_or b.ok])
end Go.Proofs.YtjegdngblndkcaaGreatDoor

/- The plain words of layer 1: Mod, Signed, Low, Plain. -/
namespace Go.Proofs.YtjegdngblndkcaaGreatDoor
open Go.RowKit Go.Deep
set_option linter.unusedVariables false
def sqP (x:Int):Int:=wrap32 (x * x) % 4294967296
def V6 (a b c:Int):Int:=wrap32 (sqP a + sqP b + sqP c)
def inside (lo hi a b c:Int):Bool:=decide (lo≤V6 a b c % 4294967296) && decide (V6 a b c % 4294967296≤hi)
def YB (m:Wd) (f:Int):Int:=if m.v = 0 then f else 0
def abl (ga gm:Wd):Int:=YB ga 2 + YB gm 4
def oZ (a b c d:Wd):Bool:=(jw a b c d).v != 0
end Go.Proofs.YtjegdngblndkcaaGreatDoor
