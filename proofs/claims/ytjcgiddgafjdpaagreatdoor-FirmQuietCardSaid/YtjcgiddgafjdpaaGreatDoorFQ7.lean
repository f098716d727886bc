/- Texts of this claim, side by side: Num2, Alu, Mill2, In32, Wd, Wdef, BitLaw, Ref01, Ref32, Ref32b, TopDef, NextDef, OfDef. -/
import Derived.Test.YtjcgiddgafjdpaaGreatDoorFQ1
import Derived.Test.YtjcgiddgafjdpaaGreatDoorShelfB
/- fix, word, clz. -/
namespace Go.Proofs.YtjcgiddgafjdpaaGreatDoor
open Go.RowKit Go.Deep
set_option linter.unusedVariables false
def xP (a:Int):Int:=32 - (Lib.bitLen (a % 4294967296).toNat:Int)
def Hg (a b:Int):Int:=wrap32 (a * b % 4294967296)
def ER (a b:Int):Int:=jX (a * b / 1073741824 + a * b / 536870912 % 2)
set_option maxHeartbeats 400000 in
theorem XO (a:Int) (w:World) (ha:-2147483648≤a∧a≤2147483647) :
 Calls Tryz.prog 361 #[.int .i32 a] w fun e w' => e = .returned (.int .i32 (xO a))∧ah w w' []:=by
 obtain ⟨n,hn⟩:∃ n,n = vF a:=⟨_,rfl⟩
 have e:xO a = max a n:=by unfold xO; rw [hn]
 rw [e]
 have HN:=hide hn
 clear hn e
 go_enter Tryz.func361,Tryz.ntmps361
 go_wp2_with fail
 refine (I9 a _ ha).mono ?_
 rintro e w1 ⟨rfl,hc⟩
 rw [← HN.out]
 have HC:=hide hc
 clear hc HN
 go_wp2
 all_goals
  go_ret
  exact ⟨by first | (rw [show max a n = if a < n then n else a by split <;> omega]; rfl) | (rw [show max a n = n by omega]; rfl) | (rw [show max a n = a by omega]; rfl),HC.out⟩
set_option maxHeartbeats 400000 in
theorem aay (a:Int) (w:World) (ha:-2147483648≤a∧a≤2147483647) :
 Calls Tryz.prog 359 #[.int .i32 a] w fun e w' => e = .returned (.int .i32 (xP a))∧w = w':=by
 have l:=Any.bitLen_le32 (a % 4294967296) (by omega) (by omega)
 have hw:wrap32 (32 - (Lib.bitLen (a % 4294967296).toNat:Int)) = xP a:=by unfold xP wrap32; omega
 have HW:=hide hw
 clear hw
 go_enter Tryz.func359,Tryz.ntmps359
 go_wp2_with fail
 refine (Tryz.bits_LeadingZeros32 _ _ (by omega) (by omega)).mono ?_
 rintro e w1 ⟨rfl,rfl⟩
 clear l
 generalize (32 - (Lib.bitLen (a % 4294967296).toNat:Int)) = n at *
 go_wp2
 go_ret
 exact ⟨by rw [← HW.out]; rfl,rfl⟩
set_option maxHeartbeats 400000 in
theorem XP (a b:Int) (w:World) (ha:-2147483648≤a∧a≤2147483647) (hb:-2147483648≤b∧b≤2147483647) :
 Calls Tryz.prog 293 #[.int .i32 a,.int .i32 b] w fun e w' => e = .returned (.int .i32 (Hg a b))∧ah w w' []:=by
 have e:Hg a b = wrap32 (wrap64 (a * b) % 4294967296):=by
  unfold Hg
  generalize a * b = p
  unfold wrap64; congr 1; omega
 rw [e]
 clear e
 go_enter Tryz.func293,Tryz.ntmps293
 go_wp2
 go_ret
 exact ⟨rfl,(ah.refl w []).alloc _⟩
theorem Us (x:Int):bits BinOp.and IntKind.i64 x 1 = x % 2:=by
 show IntKind.i64.wrap ((BitVec.ofInt 64 x &&& BitVec.ofInt 64 1).toNat:Int) = _
 have h2:(BitVec.ofInt 64 1).toNat = 1:=by decide
 rw [BitVec.toNat_and,h2,Nat.and_one_is_mod,IntKind.wrap_i64,BitVec.toNat_ofInt]
 omega
set_option maxHeartbeats 400000 in
theorem Qw (w:World):Calls Tryz.prog 334 #[.int .i64 30] w fun e w' => e = .returned (.agg #[.func (.func 357) #[] #[.pointer (some ⟨w.heap.size,0,none⟩)]])∧ah w w' []∧w'.cell? ⟨w.heap.size,0,none⟩ = some (.int .i64 30)∧w.heap.size < w'.heap.size:=by
 have hc:=(aC.new w 3 [.int .i64 30])
 have hz:=aC.new (w.alloc (.cells #[.int .i64 30] 3)) 375 [(.func (.func 357) #[] #[.pointer (some ⟨w.heap.size,0,none⟩)])]
 have h1:=hc.alloc (.cells #[(.func (.func 357) #[] #[.pointer (some ⟨w.heap.size,0,none⟩)])] 375)
 have c1:=h1.cell' (i:=0) rfl
 have c2:=hz.cell' (i:=0) rfl
 rw [size_alloc] at c2
 have HC:=hide (((ah.refl w []).alloc (.cells #[.int .i64 30] 3)).alloc (.cells #[(.func (.func 357) #[] #[.pointer (some ⟨w.heap.size,0,none⟩)])] 375))
 clear hc hz h1
 go_enter Tryz.func334,Tryz.ntmps334
 go_wp2
 refine bodyPost_ret (v:=.agg #[.func (.func 357) #[] #[.pointer (some ⟨w.heap.size,0,none⟩)]]) ?_ rfl ⟨rfl,HC.out,c1,by simp; omega⟩
 simp [results,Tryz.f334,go_sem,c2]
set_option maxHeartbeats 400000 in
theorem NR (x:Int) (p:Addr) (w:World) (hp:w.cell? p = some (.int .i64 30)) (hx:-4611686018427387904≤x∧x≤4611686018427387904):Calls Tryz.prog 357 #[.int .i64 x,.pointer (some p)] w fun e w' => e = .returned (.int .i32 (jX (x / 1073741824 + x / 536870912 % 2)))∧w = w':=by
 have hb:=Us (x / 536870912)
 have hw:wrap64 (x / 1073741824 + x / 536870912 % 2) = x / 1073741824 + x / 536870912 % 2:=by unfold wrap64; omega
 go_enter Tryz.func357,Tryz.ntmps357
 go_wp2
 go_ret
 exact ⟨by simp only [jX]; rfl,rfl⟩
theorem prod_bound {a b:Int} (ha:-2147483648≤a∧a≤2147483647) (hb:-2147483648≤b∧b≤2147483647):-4611686018427387904≤a * b∧a * b≤4611686018427387904:=by
 have h:(a * b).natAbs≤2147483648 * 2147483648:=by
  rw [Int.natAbs_mul]; exact Nat.mul_le_mul (by omega) (by omega)
 omega
set_option maxHeartbeats 400000 in
theorem Hl (a b:Int) (p:Addr) (w:World) (ha:-2147483648≤a∧a≤2147483647) (hb:-2147483648≤b∧b≤2147483647) (hp:w.cell? p = some (.int .i64 30)) :
 Calls Tryz.prog 332 #[.agg #[.func (.func 357) #[] #[.pointer (some p)]],.int .i32 a,.int .i32 b] w fun e w' => e = .returned (.int .i32 (ER a b))∧ah w w' []:=by
 have hpb:=prod_bound ha hb
 have hm:wrap64 (a * b) = a * b:=by generalize a * b = p at *; unfold wrap64; omega
 have hp1:=fun o => ((ah.refl w []).alloc o).cell hp (by simp)
 go_enter Tryz.func332,Tryz.ntmps332
 go_wp2_with fail
 refine (NR _ _ _ (hp1 _) hpb).mono ?_
 rintro e w1 ⟨rfl,rfl⟩
 go_wp2
 go_ret
 exact ⟨rfl,(ah.refl w []).alloc _⟩
set_option maxHeartbeats 400000 in
theorem XQ (a b:Int) (w:World) (ha:-2147483648≤a∧a≤2147483647) (hb:-2147483648≤b∧b≤2147483647) :
 Calls Tryz.prog 295 #[.int .i32 a,.int .i32 b] w fun e w' => e = .returned (.int .i32 (ER a b))∧ah w w' []:=by
 go_enter Tryz.func295,Tryz.ntmps295
 go_wp2_with fail
 refine (Qw _).mono ?_
 rintro e w1 ⟨rfl,hc,hp,_⟩
 have HC:=hide hc
 clear hc
 go_wp2_with fail
 refine (Hl a b _ _ ha hb hp).mono ?_
 rintro e w2 ⟨rfl,hc⟩
 have HC2:=hide hc
 clear hc
 go_wp2
 go_ret
 exact ⟨rfl,HC.out.trans HC2.out (by simp)⟩
def ads (a b:Int):Int:=wrap32 (a + b)
def adt (a b:Int):Int:=wrap32 (a - b)
def tC (a b:Int):Int:=bits BinOp.and IntKind.i32 a b
def Qx (a b:Int):Int:=bits BinOp.or IntKind.i32 a b
def adu (a b:Int):Int:=bits BinOp.xor IntKind.i32 a b
def Ho (a b:Int):Int:=bits BinOp.andNot IntKind.i32 a b
abbrev aB (a:Int):Prop:=-2147483648≤a∧a≤2147483647
set_option maxRecDepth 100000 in
set_option maxHeartbeats 1000000 in
theorem aiW (a b:Int) (w:World) (ha:aB a) (hb:aB b):Calls Tryz.prog 173 #[.int .i64 1,.int .i32 a,.int .i32 b] w fun e w' => e = .returned (.tuple #[.int .i32 (ads a b),.bool true])∧ah w w' []:=by
 have HC:=hide (ah.refl w [])
 go_enter Tryz.func173,Tryz.ntmps173
 go_wp2
 go_ret2
 exact ⟨rfl,HC.out⟩
set_option maxRecDepth 100000 in
set_option maxHeartbeats 1000000 in
theorem aiX (a b:Int) (w:World) (ha:aB a) (hb:aB b):Calls Tryz.prog 173 #[.int .i64 2,.int .i32 a,.int .i32 b] w fun e w' => e = .returned (.tuple #[.int .i32 (adt a b),.bool true])∧ah w w' []:=by
 have HC:=hide (ah.refl w [])
 go_enter Tryz.func173,Tryz.ntmps173
 go_wp2
 go_ret2
 exact ⟨rfl,HC.out⟩
set_option maxRecDepth 100000 in
set_option maxHeartbeats 1000000 in
theorem agL (a b:Int) (w:World) (ha:aB a) (hb:aB b):Calls Tryz.prog 173 #[.int .i64 3,.int .i32 a,.int .i32 b] w fun e w' => e = .returned (.tuple #[.int .i32 (EO a b),.bool true])∧ah w w' []:=by
 go_enter Tryz.func173,Tryz.ntmps173
 go_wp2_with fail
 refine (XL a b _ ha hb).mono ?_
 rintro e w1 ⟨rfl,hc⟩
 have HC:=hide hc
 clear hc
 go_wp2
 go_ret2
 exact ⟨rfl,HC.out⟩
set_option maxRecDepth 100000 in
set_option maxHeartbeats 1000000 in
theorem agM (a b:Int) (w:World) (ha:aB a) (hb:aB b):Calls Tryz.prog 173 #[.int .i64 4,.int .i32 a,.int .i32 b] w fun e w' => e = .returned (.tuple #[.int .i32 (EP a b),.bool true])∧ah w w' []:=by
 go_enter Tryz.func173,Tryz.ntmps173
 go_wp2_with fail
 refine (XM a b _ ha hb).mono ?_
 rintro e w1 ⟨rfl,hc⟩
 have HC:=hide hc
 clear hc
 go_wp2
 go_ret2
 exact ⟨rfl,HC.out⟩
set_option maxRecDepth 100000 in
set_option maxHeartbeats 1000000 in
theorem aiY (a b:Int) (w:World) (ha:aB a) (hb:aB b):Calls Tryz.prog 173 #[.int .i64 5,.int .i32 a,.int .i32 b] w fun e w' => e = .returned (.tuple #[.int .i32 (tC a b),.bool true])∧ah w w' []:=by
 have HC:=hide (ah.refl w [])
 go_enter Tryz.func173,Tryz.ntmps173
 go_wp2
 go_ret2
 exact ⟨rfl,HC.out⟩
set_option maxRecDepth 100000 in
set_option maxHeartbeats 1000000 in
theorem am0 (a b:Int) (w:World) (ha:aB a) (hb:aB b):Calls Tryz.prog 173 #[.int .i64 6,.int .i32 a,.int .i32 b] w fun e w' => e = .returned (.tuple #[.int .i32 (Qx a b),.bool true])∧ah w w' []:=by
 have HC:=hide (ah.refl w [])
 go_enter Tryz.func173,Tryz.ntmps173
 go_wp2
 go_ret2
 exact ⟨rfl,HC.out⟩
set_option maxRecDepth 100000 in
set_option maxHeartbeats 1000000 in
theorem aiZ (a b:Int) (w:World) (ha:aB a) (hb:aB b):Calls Tryz.prog 173 #[.int .i64 7,.int .i32 a,.int .i32 b] w fun e w' => e = .returned (.tuple #[.int .i32 (adu a b),.bool true])∧ah w w' []:=by
 have HC:=hide (ah.refl w [])
 go_enter Tryz.func173,Tryz.ntmps173
 go_wp2
 go_ret2
 exact ⟨rfl,HC.out⟩
set_option maxRecDepth 100000 in
set_option maxHeartbeats 1000000 in
theorem ai0 (a b:Int) (w:World) (ha:aB a) (hb:aB b):Calls Tryz.prog 173 #[.int .i64 8,.int .i32 a,.int .i32 b] w fun e w' => e = .returned (.tuple #[.int .i32 (Ho a b),.bool true])∧ah w w' []:=by
 have HC:=hide (ah.refl w [])
 go_enter Tryz.func173,Tryz.ntmps173
 go_wp2
 go_ret2
 exact ⟨rfl,HC.out⟩
set_option maxRecDepth 100000 in
set_option maxHeartbeats 1000000 in
theorem ai1 (a b:Int) (w:World) (ha:aB a) (hb:aB b):Calls Tryz.prog 173 #[.int .i64 9,.int .i32 a,.int .i32 b] w fun e w' => e = .returned (.tuple #[.int .i32 (qw a b),.bool true])∧ah w w' []:=by
 go_enter Tryz.func173,Tryz.ntmps173
 go_wp2_with fail
 refine (aav a b _).mono ?_
 rintro e w1 ⟨rfl,hc⟩
 have HC:=hide hc
 clear hc
 go_wp2
 go_ret2
 exact ⟨rfl,HC.out⟩
set_option maxRecDepth 100000 in
set_option maxHeartbeats 1000000 in
theorem ai2 (a b:Int) (w:World) (ha:aB a) (hb:aB b):Calls Tryz.prog 173 #[.int .i64 10,.int .i32 a,.int .i32 b] w fun e w' => e = .returned (.tuple #[.int .i32 (sZ a b),.bool true])∧ah w w' []:=by
 go_enter Tryz.func173,Tryz.ntmps173
 go_wp2_with fail
 refine (aaw a b _).mono ?_
 rintro e w1 ⟨rfl,hc⟩
 have HC:=hide hc
 clear hc
 go_wp2
 go_ret2
 exact ⟨rfl,HC.out⟩
set_option maxRecDepth 100000 in
set_option maxHeartbeats 1000000 in
theorem ai3 (a b:Int) (w:World) (ha:aB a) (hb:aB b):Calls Tryz.prog 173 #[.int .i64 11,.int .i32 a,.int .i32 b] w fun e w' => e = .returned (.tuple #[.int .i32 (xM a b),.bool true])∧ah w w' []:=by
 go_enter Tryz.func173,Tryz.ntmps173
 go_wp2_with fail
 refine (aau a b _).mono ?_
 rintro e w1 ⟨rfl,hc⟩
 have HC:=hide hc
 clear hc
 go_wp2
 go_ret2
 exact ⟨rfl,HC.out⟩
set_option maxRecDepth 100000 in
set_option maxHeartbeats 1000000 in
theorem ai4 (a b:Int) (w:World) (ha:aB a) (hb:aB b):Calls Tryz.prog 173 #[.int .i64 13,.int .i32 a,.int .i32 b] w fun e w' => e = .returned (.tuple #[.int .i32 (zX a b),.bool true])∧ah w w' []:=by
 have HC:=hide (ah.refl w [])
 go_enter Tryz.func173,Tryz.ntmps173
 go_wp2_with fail
 refine (XH a b _).mono ?_
 rintro e w1 ⟨rfl,rfl⟩
 go_wp2
 go_ret2
 exact ⟨rfl,HC.out⟩
set_option maxRecDepth 100000 in
set_option maxHeartbeats 1000000 in
theorem agN (a b:Int) (w:World) (ha:aB a) (hb:aB b):Calls Tryz.prog 173 #[.int .i64 14,.int .i32 a,.int .i32 b] w fun e w' => e = .returned (.tuple #[.int .i32 (tu a b),.bool true])∧ah w w' []:=by
 have HC:=hide (ah.refl w [])
 go_enter Tryz.func173,Tryz.ntmps173
 go_wp2_with fail
 refine (Ur a b _).mono ?_
 rintro e w1 ⟨rfl,rfl⟩
 go_wp2
 go_ret2
 exact ⟨rfl,HC.out⟩
set_option maxRecDepth 100000 in
set_option maxHeartbeats 1000000 in
theorem ai5 (a b:Int) (w:World) (ha:aB a) (hb:aB b):Calls Tryz.prog 173 #[.int .i64 15,.int .i32 a,.int .i32 b] w fun e w' => e = .returned (.tuple #[.int .i32 (zY a b),.bool true])∧ah w w' []:=by
 have HC:=hide (ah.refl w [])
 go_enter Tryz.func173,Tryz.ntmps173
 go_wp2_with fail
 refine (XI a b _).mono ?_
 rintro e w1 ⟨rfl,rfl⟩
 go_wp2
 go_ret2
 exact ⟨rfl,HC.out⟩
set_option maxRecDepth 100000 in
set_option maxHeartbeats 1000000 in
theorem Ut (a b:Int) (w:World) (ha:aB a) (hb:aB b):Calls Tryz.prog 250 #[.int .i64 18,.int .i32 a,.int .i32 b] w fun e w' => e = .returned (.tuple #[.int .i32 (Hg a b),.bool true])∧ah w w' []:=by
 go_enter Tryz.func250,Tryz.ntmps250
 go_wp2_with fail
 refine (XP a b _ ha hb).mono ?_
 rintro e w1 ⟨rfl,hc⟩
 have HC:=hide hc
 clear hc
 go_wp2
 go_ret2
 exact ⟨rfl,HC.out⟩
set_option maxRecDepth 100000 in
set_option maxHeartbeats 1000000 in
theorem ai6 (a b:Int) (w:World) (ha:aB a) (hb:aB b):Calls Tryz.prog 173 #[.int .i64 18,.int .i32 a,.int .i32 b] w fun e w' => e = .returned (.tuple #[.int .i32 (Hg a b),.bool true])∧ah w w' []:=by
 go_enter Tryz.func173,Tryz.ntmps173
 go_wp2_with fail
 refine (Ut a b _ ha hb).mono ?_
 rintro e w1 ⟨rfl,hc⟩
 have HC:=hide hc
 clear hc
 go_wp2
 go_ret2
 exact ⟨rfl,HC.out⟩
set_option maxRecDepth 100000 in
set_option maxHeartbeats 1000000 in
theorem Qy (a b:Int) (w:World) (ha:aB a) (hb:aB b):Calls Tryz.prog 250 #[.int .i64 20,.int .i32 a,.int .i32 b] w fun e w' => e = .returned (.tuple #[.int .i32 (ER a b),.bool true])∧ah w w' []:=by
 go_enter Tryz.func250,Tryz.ntmps250
 go_wp2_with fail
 refine (XQ a b _ ha hb).mono ?_
 rintro e w1 ⟨rfl,hc⟩
 have HC:=hide hc
 clear hc
 go_wp2
 go_ret2
 exact ⟨rfl,HC.out⟩
set_option maxRecDepth 100000 in
set_option maxHeartbeats 1000000 in
theorem agO (a b:Int) (w:World) (ha:aB a) (hb:aB b):Calls Tryz.prog 173 #[.int .i64 20,.int .i32 a,.int .i32 b] w fun e w' => e = .returned (.tuple #[.int .i32 (ER a b),.bool true])∧ah w w' []:=by
 go_enter Tryz.func173,Tryz.ntmps173
 go_wp2_with fail
 refine (Qy a b _ ha hb).mono ?_
 rintro e w1 ⟨rfl,hc⟩
 have HC:=hide hc
 clear hc
 go_wp2
 go_ret2
 exact ⟨rfl,HC.out⟩
set_option maxRecDepth 100000 in
set_option maxHeartbeats 1000000 in
theorem XR (a:Int) (w:World) (ha:aB a):Calls Tryz.prog 336 #[.int .i32 a] w fun e w' => e = .returned (.int .i32 (xP a))∧ah w w' []:=by
 have HC:=hide (ah.refl w [])
 go_enter Tryz.func336,Tryz.ntmps336
 go_wp2_with fail
 refine (aay a _ ha).mono ?_
 rintro e w1 ⟨rfl,rfl⟩
 go_wp2
 go_ret
 exact ⟨rfl,HC.out⟩
set_option maxRecDepth 100000 in
set_option maxHeartbeats 1000000 in
theorem aaz (a:Int) (w:World) (ha:aB a):Calls Tryz.prog 335 #[.func (.func 336) #[] #[],.int .i32 a] w fun e w' => e = .returned (.tuple #[.int .i32 (xP a),.bool true])∧ah w w' []:=by
 go_enter Tryz.func335,Tryz.ntmps335
 go_wp2_with fail
 refine (XR a _ ha).mono ?_
 rintro e w1 ⟨rfl,hc⟩
 have HC:=hide hc
 clear hc
 go_wp2
 go_ret2
 exact ⟨rfl,HC.out⟩
set_option maxRecDepth 100000 in
set_option maxHeartbeats 1000000 in
theorem aaA (a:Int) (w:World) (ha:aB a):Calls Tryz.prog 297 #[.int .i64 24,.int .i32 a] w fun e w' => e = .returned (.tuple #[.int .i32 (xP a),.bool true])∧ah w w' []:=by
 go_enter Tryz.func297,Tryz.ntmps297
 go_wp2_with fail
 refine (aaz a _ ha).mono ?_
 rintro e w1 ⟨rfl,hc⟩
 have HC:=hide hc
 clear hc
 go_wp2
 go_ret2
 exact ⟨rfl,HC.out⟩
set_option maxRecDepth 100000 in
set_option maxHeartbeats 1000000 in
theorem Uu (a b:Int) (w:World) (ha:aB a) (hb:aB b):Calls Tryz.prog 250 #[.int .i64 24,.int .i32 a,.int .i32 b] w fun e w' => e = .returned (.tuple #[.int .i32 (xP a),.bool true])∧ah w w' []:=by
 go_enter Tryz.func250,Tryz.ntmps250
 go_wp2_with fail
 refine (aaA a _ ha).mono ?_
 rintro e w1 ⟨rfl,hc⟩
 have HC:=hide hc
 clear hc
 go_wp2
 go_ret2
 exact ⟨rfl,HC.out⟩
set_option maxRecDepth 100000 in
set_option maxHeartbeats 1000000 in
theorem ai7 (a b:Int) (w:World) (ha:aB a) (hb:aB b):Calls Tryz.prog 173 #[.int .i64 24,.int .i32 a,.int .i32 b] w fun e w' => e = .returned (.tuple #[.int .i32 (xP a),.bool true])∧ah w w' []:=by
 go_enter Tryz.func173,Tryz.ntmps173
 go_wp2_with fail
 refine (Uu a b _ ha hb).mono ?_
 rintro e w1 ⟨rfl,hc⟩
 have HC:=hide hc
 clear hc
 go_wp2
 go_ret2
 exact ⟨rfl,HC.out⟩
set_option maxRecDepth 100000 in
set_option maxHeartbeats 1000000 in
theorem XT (a:Int) (w:World) (ha:aB a):Calls Tryz.prog 337 #[.int .i32 a] w fun e w' => e = .returned (.int .i32 (vF a))∧ah w w' []:=by
 go_enter Tryz.func337,Tryz.ntmps337
 go_wp2_with fail
 refine (I9 a _ ha).mono ?_
 rintro e w1 ⟨rfl,hc⟩
 have HC:=hide hc
 clear hc
 go_wp2
 go_ret
 exact ⟨rfl,HC.out⟩
set_option maxRecDepth 100000 in
set_option maxHeartbeats 1000000 in
theorem aaB (a:Int) (w:World) (ha:aB a):Calls Tryz.prog 335 #[.func (.func 337) #[] #[],.int .i32 a] w fun e w' => e = .returned (.tuple #[.int .i32 (vF a),.bool true])∧ah w w' []:=by
 go_enter Tryz.func335,Tryz.ntmps335
 go_wp2_with fail
 refine (XT a _ ha).mono ?_
 rintro e w1 ⟨rfl,hc⟩
 have HC:=hide hc
 clear hc
 go_wp2
 go_ret2
 exact ⟨rfl,HC.out⟩
set_option maxRecDepth 100000 in
set_option maxHeartbeats 1000000 in
theorem aaC (a:Int) (w:World) (ha:aB a):Calls Tryz.prog 297 #[.int .i64 25,.int .i32 a] w fun e w' => e = .returned (.tuple #[.int .i32 (vF a),.bool true])∧ah w w' []:=by
 go_enter Tryz.func297,Tryz.ntmps297
 go_wp2_with fail
 refine (aaB a _ ha).mono ?_
 rintro e w1 ⟨rfl,hc⟩
 have HC:=hide hc
 clear hc
 go_wp2
 go_ret2
 exact ⟨rfl,HC.out⟩
set_option maxRecDepth 100000 in
set_option maxHeartbeats 1000000 in
theorem Uw (a b:Int) (w:World) (ha:aB a) (hb:aB b):Calls Tryz.prog 250 #[.int .i64 25,.int .i32 a,.int .i32 b] w fun e w' => e = .returned (.tuple #[.int .i32 (vF a),.bool true])∧ah w w' []:=by
 go_enter Tryz.func250,Tryz.ntmps250
 go_wp2_with fail
 refine (aaC a _ ha).mono ?_
 rintro e w1 ⟨rfl,hc⟩
 have HC:=hide hc
 clear hc
 go_wp2
 go_ret2
 exact ⟨rfl,HC.out⟩
set_option maxRecDepth 100000 in
set_option maxHeartbeats 1000000 in
theorem ai8 (a b:Int) (w:World) (ha:aB a) (hb:aB b):Calls Tryz.prog 173 #[.int .i64 25,.int .i32 a,.int .i32 b] w fun e w' => e = .returned (.tuple #[.int .i32 (vF a),.bool true])∧ah w w' []:=by
 go_enter Tryz.func173,Tryz.ntmps173
 go_wp2_with fail
 refine (Uw a b _ ha hb).mono ?_
 rintro e w1 ⟨rfl,hc⟩
 have HC:=hide hc
 clear hc
 go_wp2
 go_ret2
 exact ⟨rfl,HC.out⟩
set_option maxRecDepth 100000 in
set_option maxHeartbeats 1000000 in
theorem XU (a:Int) (w:World) (ha:aB a):Calls Tryz.prog 338 #[.int .i32 a] w fun e w' => e = .returned (.int .i32 (xO a))∧ah w w' []:=by
 go_enter Tryz.func338,Tryz.ntmps338
 go_wp2_with fail
 refine (XO a _ ha).mono ?_
 rintro e w1 ⟨rfl,hc⟩
 have HC:=hide hc
 clear hc
 go_wp2
 go_ret
 exact ⟨rfl,HC.out⟩
set_option maxRecDepth 100000 in
set_option maxHeartbeats 1000000 in
theorem aaD (a:Int) (w:World) (ha:aB a):Calls Tryz.prog 335 #[.func (.func 338) #[] #[],.int .i32 a] w fun e w' => e = .returned (.tuple #[.int .i32 (xO a),.bool true])∧ah w w' []:=by
 go_enter Tryz.func335,Tryz.ntmps335
 go_wp2_with fail
 refine (XU a _ ha).mono ?_
 rintro e w1 ⟨rfl,hc⟩
 have HC:=hide hc
 clear hc
 go_wp2
 go_ret2
 exact ⟨rfl,HC.out⟩
set_option maxRecDepth 100000 in
set_option maxHeartbeats 1000000 in
theorem aaE (a:Int) (w:World) (ha:aB a):Calls Tryz.prog 297 #[.int .i64 26,.int .i32 a] w fun e w' => e = .returned (.tuple #[.int .i32 (xO a),.bool true])∧ah w w' []:=by
 go_enter Tryz.func297,Tryz.ntmps297
 go_wp2_with fail
 refine (aaD a _ ha).mono ?_
 rintro e w1 ⟨rfl,hc⟩
 have HC:=hide hc
 clear hc
 go_wp2
 go_ret2
 exact ⟨rfl,HC.out⟩
set_option maxRecDepth 100000 in
set_option maxHeartbeats 1000000 in
theorem Ux (a b:Int) (w:World) (ha:aB a) (hb:aB b):Calls Tryz.prog 250 #[.int .i64 26,.int .i32 a,.int .i32 b] w fun e w' => e = .returned (.tuple #[.int .i32 (xO a),.bool true])∧ah w w' []:=by
 go_enter Tryz.func250,Tryz.ntmps250
 go_wp2_with fail
 refine (aaE a _ ha).mono ?_
 rintro e w1 ⟨rfl,hc⟩
 have HC:=hide hc
 clear hc
 go_wp2
 go_ret2
 exact ⟨rfl,HC.out⟩
set_option maxRecDepth 100000 in
set_option maxHeartbeats 1000000 in
theorem ai9 (a b:Int) (w:World) (ha:aB a) (hb:aB b):Calls Tryz.prog 173 #[.int .i64 26,.int .i32 a,.int .i32 b] w fun e w' => e = .returned (.tuple #[.int .i32 (xO a),.bool true])∧ah w w' []:=by
 go_enter Tryz.func173,Tryz.ntmps173
 go_wp2_with fail
 refine (Ux a b _ ha hb).mono ?_
 rintro e w1 ⟨rfl,hc⟩
 have HC:=hide hc
 clear hc
 go_wp2
 go_ret2
 exact ⟨rfl,HC.out⟩
set_option maxRecDepth 100000 in
set_option maxHeartbeats 1000000 in
theorem Uy (a:Int) (w:World) (ha:aB a):Calls Tryz.prog 340 #[.int .i32 a] w fun e w' => e = .returned (.int .i32 (wG a))∧ah w w' []:=by
 have HC:=hide (ah.refl w [])
 go_enter Tryz.func340,Tryz.ntmps340
 go_wp2_with fail
 refine (XJ a _).mono ?_
 rintro e w1 ⟨rfl,rfl⟩
 go_wp2
 go_ret
 exact ⟨rfl,HC.out⟩
set_option maxRecDepth 100000 in
set_option maxHeartbeats 1000000 in
theorem XV (a:Int) (w:World) (ha:aB a):Calls Tryz.prog 335 #[.func (.func 340) #[] #[],.int .i32 a] w fun e w' => e = .returned (.tuple #[.int .i32 (wG a),.bool true])∧ah w w' []:=by
 go_enter Tryz.func335,Tryz.ntmps335
 go_wp2_with fail
 refine (Uy a _ ha).mono ?_
 rintro e w1 ⟨rfl,hc⟩
 have HC:=hide hc
 clear hc
 go_wp2
 go_ret2
 exact ⟨rfl,HC.out⟩
set_option maxRecDepth 100000 in
set_option maxHeartbeats 1000000 in
theorem XW (a:Int) (w:World) (ha:aB a):Calls Tryz.prog 297 #[.int .i64 28,.int .i32 a] w fun e w' => e = .returned (.tuple #[.int .i32 (wG a),.bool true])∧ah w w' []:=by
 go_enter Tryz.func297,Tryz.ntmps297
 go_wp2_with fail
 refine (XV a _ ha).mono ?_
 rintro e w1 ⟨rfl,hc⟩
 have HC:=hide hc
 clear hc
 go_wp2
 go_ret2
 exact ⟨rfl,HC.out⟩
set_option maxRecDepth 100000 in
set_option maxHeartbeats 1000000 in
theorem Qz (a b:Int) (w:World) (ha:aB a) (hb:aB b):Calls Tryz.prog 250 #[.int .i64 28,.int .i32 a,.int .i32 b] w fun e w' => e = .returned (.tuple #[.int .i32 (wG a),.bool true])∧ah w w' []:=by
 go_enter Tryz.func250,Tryz.ntmps250
 go_wp2_with fail
 refine (XW a _ ha).mono ?_
 rintro e w1 ⟨rfl,hc⟩
 have HC:=hide hc
 clear hc
 go_wp2
 go_ret2
 exact ⟨rfl,HC.out⟩
set_option maxRecDepth 100000 in
set_option maxHeartbeats 1000000 in
theorem agP (a b:Int) (w:World) (ha:aB a) (hb:aB b):Calls Tryz.prog 173 #[.int .i64 28,.int .i32 a,.int .i32 b] w fun e w' => e = .returned (.tuple #[.int .i32 (wG a),.bool true])∧ah w w' []:=by
 go_enter Tryz.func173,Tryz.ntmps173
 go_wp2_with fail
 refine (Qz a b _ ha hb).mono ?_
 rintro e w1 ⟨rfl,hc⟩
 have HC:=hide hc
 clear hc
 go_wp2
 go_ret2
 exact ⟨rfl,HC.out⟩
def XY (a b:Int):Int:=min a b
def XZ (a b:Int):Int:=max a b
set_option maxRecDepth 100000 in
set_option maxHeartbeats 1000000 in
theorem ai_ (a b:Int) (w:World) (ha:aB a) (hb:aB b):Calls Tryz.prog 173 #[.int .i64 16,.int .i32 a,.int .i32 b] w fun e w' => e = .returned (.tuple #[.int .i32 (XY a b),.bool true])∧ah w w' []:=by
 have HC:=hide (ah.refl w [])
 go_enter Tryz.func173,Tryz.ntmps173
 go_wp2
 go_ret2
 exact ⟨rfl,HC.out⟩
set_option maxRecDepth 100000 in
set_option maxHeartbeats 1000000 in
theorem aja (a b:Int) (w:World) (ha:aB a) (hb:aB b):Calls Tryz.prog 173 #[.int .i64 17,.int .i32 a,.int .i32 b] w fun e w' => e = .returned (.tuple #[.int .i32 (XZ a b),.bool true])∧ah w w' []:=by
 have HC:=hide (ah.refl w [])
 go_enter Tryz.func173,Tryz.ntmps173
 go_wp2
 go_ret2
 exact ⟨rfl,HC.out⟩
theorem m_ (n:Int):aB (wrap32 n):=by unfold aB wrap32; omega
theorem Dy (n:Int):aB (jX n):=by unfold aB jX; omega
theorem ajc (a b:Int):aB (ads a b):=m_ _
theorem ajd (a b:Int):aB (adt a b):=m_ _
theorem agQ (a b:Int):aB (EO a b):=Dy _
theorem agR (a b:Int):aB (EP a b):=Dy _
theorem yO (n:Int):IntKind.i32.wrap n = wrap32 n:=by rw [IntKind.wrap_i32]; unfold wrap32; rfl
theorem aje (a b:Int):aB (tC a b):=by
 show aB (IntKind.i32.wrap _); rw [yO]; exact m_ _
theorem am1 (a b:Int):aB (Qx a b):=by
 show aB (IntKind.i32.wrap _); rw [yO]; exact m_ _
theorem ajf (a b:Int):aB (adu a b):=by
 show aB (IntKind.i32.wrap _); rw [yO]; exact m_ _
theorem ajg (a b:Int):aB (Ho a b):=by
 show aB (IntKind.i32.wrap _); rw [yO]; exact m_ _
theorem aaF (a b:Int):aB (qw a b):=m_ _
theorem ajh (a b:Int):aB (sZ a b):=m_ _
theorem QC (a b:Int) (h:aB a):aB (xM a b):=by
 unfold aB xM at *
 have h2:(1:Int)≤2 ^ sh b:=by
  have:=Nat.one_le_two_pow (n:=sh b)
  exact_mod_cast this
 generalize (2:Int) ^ sh b = d at *
 constructor
 · rw [Int.le_ediv_iff_mul_le (by omega)]
   have:(2147483648:Int) * 1≤2147483648 * d:=Int.mul_le_mul_of_nonneg_left h2 (by omega)
   omega
 · exact Int.ediv_le_of_le_mul (by omega) (by
    have:(2147483647:Int) * 1≤2147483647 * d:=Int.mul_le_mul_of_nonneg_left h2 (by omega)
    omega)
theorem in_lt (a b:Int):aB (zX a b):=by unfold aB zX; split <;> omega
theorem aji (a b:Int):aB (tu a b):=by unfold aB tu; split <;> omega
theorem am2 (a b:Int):aB (zY a b):=by unfold aB zY; split <;> omega
theorem ajj (a b:Int):aB (Hg a b):=m_ _
theorem agS (a b:Int):aB (ER a b):=Dy _
theorem aaG (a:Int):aB (vF a):=Dy _
theorem ajk (a:Int) (h:aB a):aB (xO a):=by have:=aaG a; unfold aB xO at *; omega
theorem agT (a:Int) (h:aB a):aB (wG a):=by unfold aB wG at *; omega
theorem ajl (a:Int):aB (xP a):=by
 have:=Any.bitLen_le32 (a % 4294967296) (by omega) (by omega)
 unfold aB xP; omega
theorem ajm (a b:Int) (ha:aB a) (hb:aB b):aB (XY a b):=by unfold aB XY at *; omega
theorem ajn (a b:Int) (ha:aB a) (hb:aB b):aB (XZ a b):=by unfold aB XZ at *; omega
structure Wd where
 v:Int
 ok:aB v
theorem Wd.dJ {a b:Wd} (h:a.v = b.v):a = b:=by cases a; cases b; cases h; rfl
def kW (n:Int):Wd:=⟨wrap32 n,m_ n⟩
theorem tH {n:Int} (h:aB n):(kW n).v = n:=by show wrap32 n = n; unfold aB at h; unfold wrap32; omega
def Bv (a b:Wd):Wd:=⟨ads a.v b.v,ajc _ _⟩
def zA (a b:Wd):Wd:=⟨adt a.v b.v,ajd _ _⟩
def iI (a b:Wd):Wd:=⟨EO a.v b.v,agQ _ _⟩
def rO (a b:Wd):Wd:=⟨EP a.v b.v,agR _ _⟩
def gB (a b:Wd):Wd:=⟨tC a.v b.v,aje _ _⟩
def FU (a b:Wd):Wd:=⟨Qx a.v b.v,am1 _ _⟩
def Hq (a b:Wd):Wd:=⟨adu a.v b.v,ajf _ _⟩
def QD (a b:Wd):Wd:=⟨Ho a.v b.v,ajg _ _⟩
def tJ (a b:Wd):Wd:=⟨qw a.v b.v,aaF _ _⟩
def tK (a b:Wd):Wd:=⟨sZ a.v b.v,ajh _ _⟩
def zB (a b:Wd):Wd:=⟨xM a.v b.v,QC _ _ a.ok⟩
def KI (a b:Wd):Wd:=⟨zX a.v b.v,in_lt _ _⟩
def ES (a b:Wd):Wd:=⟨tu a.v b.v,aji _ _⟩
def QE (a b:Wd):Wd:=⟨Hg a.v b.v,ajj _ _⟩
def aP (a b:Wd):Wd:=⟨ER a.v b.v,agS _ _⟩
def KJ (a b:Wd):Wd:=⟨XY a.v b.v,ajm _ _ a.ok b.ok⟩
def KL (a b:Wd):Wd:=⟨XZ a.v b.v,ajn _ _ a.ok b.ok⟩
def jc (a:Wd):Wd:=⟨xP a.v,ajl _⟩
def qx (a:Wd):Wd:=⟨vF a.v,aaG _⟩
def qy (a:Wd):Wd:=⟨xO a.v,ajk _ a.ok⟩
def yP (a:Wd):Wd:=⟨wG a.v,agT _ a.ok⟩
def Dz (m a b:Wd):Wd:=FU (gB a m) (QD b m)
def Oz (x m:Wd):Wd:=zA (Hq x m) m
def yQ (a:Wd) (n:Int):Wd:=⟨qw a.v n,aaF _ _⟩
def nM (a:Wd) (n:Int):Wd:=⟨xM a.v n,QC _ _ a.ok⟩
def qQ (a b c:Wd):Wd:=Bv (Bv (QE a a) (QE b b)) (QE c c)
def E8 (n low high:Wd):Wd:=zA (FU (ES n low) (ES high n)) (kW 1)
def jg (x z h:Wd):Wd:=tJ (aP x z) h
def iK (x:Wd) (l:List Wd):Wd:=l.foldl rO x
def nR (x:Wd) (l:List Wd):Wd:=l.foldl iI x
def jh (x:Wd) (l:List Wd):Wd:=l.foldl (fun s y => iI s (aP y y)) (aP x x)
structure Tm where
 a:Nat
 b:Nat
 less:Bool
def pick (l:List Wd) (k:Nat):Wd:=l.getD k (kW 0)
def term (ps qs:List Wd) (t:Tm):Wd:=aP (pick ps t.a) (pick qs t.b)
def apD (ps qs:List Wd) (s:Wd) (t:Tm):Wd:=bif t.less then rO s (term ps qs t) else iI s (term ps qs t)
def apE (ps qs:List Wd) (t:Tm):Wd:=bif t.less then rO (kW 0) (term ps qs t) else term ps qs t
def uP (ps qs:List Wd) (t:Tm) (l:List Tm):Wd:=l.foldl (apD ps qs) (apE ps qs t)
structure Q4 where
 a:Wd
 b:Wd
 c:Wd
 d:Wd
def akD (a b c d e f g h:Wd):Q4:=⟨uP [a,b,c,d] [e,f,g,h] ⟨0,0,false⟩ [⟨1,1,true⟩,⟨2,2,true⟩,⟨3,3,true⟩],uP [a,b,c,d] [e,f,g,h] ⟨0,1,false⟩ [⟨1,0,false⟩,⟨2,3,false⟩,⟨3,2,true⟩],uP [a,b,c,d] [e,f,g,h] ⟨0,2,false⟩ [⟨1,3,true⟩,⟨2,0,false⟩,⟨3,1,false⟩],uP [a,b,c,d] [e,f,g,h] ⟨0,3,false⟩ [⟨1,2,false⟩,⟨2,1,true⟩,⟨3,0,false⟩]⟩
def Jr (a b c d e f g:Wd):Q4:=⟨uP [a,b,c,d] [e,f,g] ⟨1,0,true⟩ [⟨2,1,true⟩,⟨3,2,true⟩],uP [a,b,c,d] [e,f,g] ⟨0,0,false⟩ [⟨2,2,false⟩,⟨3,1,true⟩],uP [a,b,c,d] [e,f,g] ⟨0,1,false⟩ [⟨1,2,true⟩,⟨3,0,false⟩],uP [a,b,c,d] [e,f,g] ⟨0,2,false⟩ [⟨1,1,false⟩,⟨2,0,true⟩]⟩
def akE (q0 q1 q2 q3 a0:Wd):Wd:=iK (aP q1 q3) [aP q0 q2,nM a0 1]
def akF (q0 q1 q2 q3 a1:Wd):Wd:=iK (nR (aP q0 q1) [aP q2 q3]) [nM a1 1]
def akG (q1 q2 a2:Wd):Wd:=iK (kW 536870912) [aP q1 q1,aP q2 q2,nM a2 1]
def akH (q0 q1 q2 q3 f0 f1 f2:Wd):Q4 :=
 ⟨nM (iK (aP q1 f1) [aP q2 f0]) 1,iK (nM (nR (aP q3 f0) [aP q0 f1]) 1) [aP q1 f2],iK (nM (iK (aP q3 f1) [aP q0 f0]) 1) [aP q2 f2],nM (nR (aP q1 f0) [aP q2 f1]) 1⟩
def ant (q0 q1 q2 q3 a0 a1 a2:Wd):Q4:=akH q0 q1 q2 q3 (akE q0 q1 q2 q3 a0) (akF q0 q1 q2 q3 a1) (akG q1 q2 a2)
structure T3 where
 a:Wd
 b:Wd
 c:Wd
def ahw (q0 q1 q2 q3 bx bz f0 f1 f2:Wd):T3 :=
 ⟨iK (nR (aP bx (iK (kW 536870912) [aP q2 q2,aP q3 q3])) [aP bz (iK (aP q1 q3) [aP q0 q2])]) [nM f0 1],
  iK (nR (aP bx (iK (aP q1 q2) [aP q0 q3])) [aP bz (nR (aP q0 q1) [aP q2 q3])]) [nM f1 1],
  iK (nR (aP bx (nR (aP q0 q2) [aP q1 q3])) [aP bz (iK (kW 536870912) [aP q1 q1,aP q2 q2])]) [nM f2 1]⟩
def Sv (u y:Wd):Wd:=iI y (nM (aP y (rO (kW 1073741824) (yQ (aP u (aP y y)) 2))) 1)
def OG (x:Wd):Wd:=gB (jc x) (kW 30)
def Js (x:Wd):Wd:=tK (tJ x (OG x)) (kW 2)
def akI (u:Wd):Wd:=rO (kW 1184766729) (aP (kW 715827883) u)
def OH (u:Wd):Nat→Wd
 | 0 => akI u
 | k + 1 => Sv u (OH u k)
def eP (x:Wd):Wd × Wd:=(OH (Js x) 4,tK (OG x) (kW 1))
def afS (x:Wd):Wd:=jg x (eP x).1 (eP x).2
def Ah (x0 x1 x2:Wd):T3:=⟨jg (yQ x0 15) (eP (qQ x0 x1 x2)).1 (eP (qQ x0 x1 x2)).2,jg (yQ x1 15) (eP (qQ x0 x1 x2)).1 (eP (qQ x0 x1 x2)).2,jg (yQ x2 15) (eP (qQ x0 x1 x2)).1 (eP (qQ x0 x1 x2)).2⟩
def anu (x0 x1 x2 x3:Wd):Q4:=⟨jg x0 (eP (iI (jh x0 [x1,x2,x3]) (kW 1024))).1 (eP (iI (jh x0 [x1,x2,x3]) (kW 1024))).2,jg x1 (eP (iI (jh x0 [x1,x2,x3]) (kW 1024))).1 (eP (iI (jh x0 [x1,x2,x3]) (kW 1024))).2,jg x2 (eP (iI (jh x0 [x1,x2,x3]) (kW 1024))).1 (eP (iI (jh x0 [x1,x2,x3]) (kW 1024))).2,jg x3 (eP (iI (jh x0 [x1,x2,x3]) (kW 1024))).1 (eP (iI (jh x0 [x1,x2,x3]) (kW 1024))).2⟩
def sumW (a b c e0 e1 e2:Wd):Wd:=nM (nR (aP a e0) [aP b e1,aP c e2]) 1
def Sz (q0 q1 q2 q3 f0 f1 f2:Wd):Q4:=akD (Jr q0 q1 q2 q3 f0 f1 f2).a (Jr q0 q1 q2 q3 f0 f1 f2).b (Jr q0 q1 q2 q3 f0 f1 f2).c (Jr q0 q1 q2 q3 f0 f1 f2).d q0 (qx q1) (qx q2) (qx q3)
def D8 (q0 q1 q2 q3 f0 f1 f2:Wd):Wd:=afS (jh (Sz q0 q1 q2 q3 f0 f1 f2).b [(Sz q0 q1 q2 q3 f0 f1 f2).c])
def D9 (q0 q1 q2 q3 f0 f1 f2:Wd):Wd:=(Sz q0 q1 q2 q3 f0 f1 f2).d
def akJ (q0 q1 q2 q3 f0 f1 f2:Wd):T3:=ahw q0 q1 q2 q3 (D8 q0 q1 q2 q3 f0 f1 f2) (D9 q0 q1 q2 q3 f0 f1 f2) f0 f1 f2
def akK (q0 q1 q2 q3 f0 f1 f2:Wd):Q4:=⟨aP (D8 q0 q1 q2 q3 f0 f1 f2) q0,aP (D8 q0 q1 q2 q3 f0 f1 f2) q1,aP (D8 q0 q1 q2 q3 f0 f1 f2) q2,aP (D8 q0 q1 q2 q3 f0 f1 f2) q3⟩
def akL (q0 q1 q2 q3 f0 f1 f2:Wd):Q4:=⟨aP (D9 q0 q1 q2 q3 f0 f1 f2) q0,aP (D9 q0 q1 q2 q3 f0 f1 f2) q1,aP (D9 q0 q1 q2 q3 f0 f1 f2) q2,aP (D9 q0 q1 q2 q3 f0 f1 f2) q3⟩
def qH (x y:Q4) (e:T3):Q4 :=
 ⟨sumW (qx y.c) (iK y.b [x.d]) x.c e.a e.b e.c,
  sumW y.d (nR x.c [y.a]) (iK x.d [y.b,y.b]) e.a e.b e.c,
  sumW (qx (nR x.c [x.c,y.a])) (nR x.b [y.d]) (iK x.a [y.c,y.c]) e.a e.b e.c,
  sumW (iK y.b [x.d,x.d]) (iK y.c [x.a]) x.b e.a e.b e.c⟩
def akM (q0 q1 q2 q3 f0 f1 f2:Wd):Q4:=qH (akK q0 q1 q2 q3 f0 f1 f2) (akL q0 q1 q2 q3 f0 f1 f2) (akJ q0 q1 q2 q3 f0 f1 f2)
def akN:List Wd:=[kW 421657428,kW 248918915,kW 131521918,kW 66762579,kW 33510843,kW 16771758,kW 8387925,kW 4194219,kW 2097141,kW 1048575,kW 524288,kW 262144,kW 131072,kW 65536,kW 32768,kW 16384,kW 8192,kW 4096,kW 2048,kW 1024,kW 512,kW 256,kW 128,kW 64,kW 32,kW 16,kW 8,kW 4]
def abC (v s:Wd):Wd:=tK (tJ v s) (kW 2)
def aed (i:Nat) (x y c:Wd):T3:=⟨Bv x (Oz (zB y (kW i)) (yP y)),zA y (Oz (zB x (kW i)) (yP y)),Bv c (Oz (akN.getD i (kW 0)) (yP y))⟩
def OI (x y:Wd):Nat→T3
 | 0 => ⟨x,y,kW 0⟩
 | i + 1 => aed i (OI x y i).a (OI x y i).b (OI x y i).c
def akO (y x:Wd):T3:=OI (abC (KL (qy x) (qy y)) (zA (jc (KL (qy x) (qy y))) (kW 1))) (abC (KJ (qy x) (qy y)) (zA (jc (KL (qy x) (qy y))) (kW 1))) 28
def aee (y x c:Wd):Wd:=Dz (qx (KI (qy x) (qy y))) (zA (kW 843314857) c) c
def aef (x b:Wd):Wd:=Dz (yP x) (zA (kW 1686629713) b) b
def akP (y x:Wd):Wd:=aee y x (akO y x).c
def akQ (y x:Wd):Wd:=aef x (akP y x)
def SA (y x:Wd):Wd:=Oz (akQ y x) (yP y)
def Wj (q0 q1 q2 q3:Wd):Wd:=nR (aP q0 q1) [aP q2 q3]
def Wn (q0 q1 q2 q3:Wd):Wd:=iK (kW 536870912) [aP q1 q1,aP q2 q2]
def Le (q0 q1 q2 q3:Wd):Wd:=iK (aP q0 q2) [aP q3 q1]
def ahx (q0 q1 q2 q3:Wd):Wd:=nR (aP q0 q3) [aP q1 q2]
def ahy (q0 q1 q2 q3:Wd):Wd:=iK (kW 536870912) [aP q2 q2,aP q3 q3]
def ahz (q0 q1 q2 q3:Wd):Wd:=afS (jh (Wn q0 q1 q2 q3) [Wj q0 q1 q2 q3])
def jH (q0 q1 q2 q3:Wd):T3:=⟨SA (Wj q0 q1 q2 q3) (Wn q0 q1 q2 q3),SA (Le q0 q1 q2 q3) (ahz q0 q1 q2 q3),SA (ahx q0 q1 q2 q3) (ahy q0 q1 q2 q3)⟩
def jI (q0 q1 q2 q3:Wd):Wd:=zA (KI (qy (Le q0 q1 q2 q3)) (kW 536000000)) (kW 1)
def anv (x0 x1 x2 x3:Wd):Q4:=⟨jg x0 (eP (jh x0 [x1,x2,x3])).1 (eP (jh x0 [x1,x2,x3])).2,jg x1 (eP (jh x0 [x1,x2,x3])).1 (eP (jh x0 [x1,x2,x3])).2,jg x2 (eP (jh x0 [x1,x2,x3])).1 (eP (jh x0 [x1,x2,x3])).2,jg x3 (eP (jh x0 [x1,x2,x3])).1 (eP (jh x0 [x1,x2,x3])).2⟩
def anw (x:Wd):Wd:=KJ (KL x (kW (-134217728))) (kW 134217728)
def OJ (q r b ga:Wd):Wd:=iI q (anw (rO r (gB (nM b 8) ga)))
def wY (a0 a1 a2:Wd):Wd:=E8 (qQ a0 a1 a2) (kW 16777216) (kW 150994944)
def wZ (m0 m1 m2:Wd):Wd:=E8 (qQ m0 m1 m2) (kW 1000000) (kW 400000000)
def ahA (q0 q1 q2 q3 a0 a1 a2:Wd):Q4:=ant q0 q1 q2 q3 (Ah a0 a1 a2).a (Ah a0 a1 a2).b (Ah a0 a1 a2).c
def ahB (q0 q1 q2 q3 m0 m1 m2:Wd):Q4:=akM q0 q1 q2 q3 (Ah m0 m1 m2).a (Ah m0 m1 m2).b (Ah m0 m1 m2).c
def akR (P N:Q4) (gm:Wd):Q4:=⟨iI P.a (gB N.a gm),iI P.b (gB N.b gm),iI P.c (gB N.c gm),iI P.d (gB N.d gm)⟩
def akS (D:Q4):Q4:=anu D.a D.b D.c D.d
def akT (q0 q1 q2 q3 g0 g1 g2:Wd):Q4:=Jr q0 q1 q2 q3 (yQ g0 12) (yQ g1 12) (yQ g2 12)
def stepOf (q0 q1 q2 q3:Wd) (R E:Q4) (ga:Wd):Q4:=anv (OJ q0 R.a E.a ga) (OJ q1 R.b E.b ga) (OJ q2 R.c E.c ga) (OJ q3 R.d E.d ga)
def ahC (q0 q1 q2 q3 a0 a1 a2 m0 m1 m2:Wd):Q4:=akS (akR (ahA q0 q1 q2 q3 a0 a1 a2) (ahB q0 q1 q2 q3 m0 m1 m2) (wZ m0 m1 m2))
def Wp (q0 q1 q2 q3 g0 g1 g2 a0 a1 a2 m0 m1 m2:Wd):Q4:=stepOf q0 q1 q2 q3 (akT q0 q1 q2 q3 g0 g1 g2) (ahC q0 q1 q2 q3 a0 a1 a2 m0 m1 m2) (wY a0 a1 a2)
end Go.Proofs.YtjcgiddgafjdpaaGreatDoor

/- Words and masks: all ones, or 0. -/
namespace Go.Proofs.YtjcgiddgafjdpaaGreatDoor
open Go.RowKit
set_option linter.unusedVariables false
theorem abU:BitVec.ofInt 32 (-1) = BitVec.allOnes 32:=by decide
theorem Fj:BitVec.ofInt 32 0 = 0#32:=by decide
theorem ahT {x:Int} (h:aB x):tC x (-1) = x:=by
 show IntKind.i32.wrap ((BitVec.ofInt 32 x &&& BitVec.ofInt 32 (-1)).toNat:Int) = _
 rw [abU,BitVec.and_allOnes,IntKind.wrap_i32,BitVec.toNat_ofInt]
 unfold aB at h
 omega
theorem aeA (x:Int):tC x 0 = 0:=by
 show IntKind.i32.wrap ((BitVec.ofInt 32 x &&& BitVec.ofInt 32 0).toNat:Int) = _
 rw [Fj,BitVec.and_zero]
 decide
theorem or_none {x:Int} (h:aB x):Qx x 0 = x:=by
 show IntKind.i32.wrap ((BitVec.ofInt 32 x ||| BitVec.ofInt 32 0).toNat:Int) = _
 rw [Fj,BitVec.or_zero,IntKind.wrap_i32,BitVec.toNat_ofInt]
 unfold aB at h
 omega
theorem none_or {x:Int} (h:aB x):Qx 0 x = x:=by
 show IntKind.i32.wrap ((BitVec.ofInt 32 0 ||| BitVec.ofInt 32 x).toNat:Int) = _
 rw [Fj,BitVec.zero_or,IntKind.wrap_i32,BitVec.toNat_ofInt]
 unfold aB at h
 omega
theorem aeB {x:Int} (h:aB x):Ho x 0 = x:=by
 show IntKind.i32.wrap ((BitVec.ofInt 32 x &&& ~~~BitVec.ofInt 32 0).toNat:Int) = _
 rw [Fj,BitVec.not_zero,BitVec.and_allOnes,IntKind.wrap_i32,BitVec.toNat_ofInt]
 unfold aB at h
 omega
theorem ahU {x:Int} (h:aB x):Ho x (-1) = 0:=by
 show IntKind.i32.wrap ((BitVec.ofInt 32 x &&& ~~~BitVec.ofInt 32 (-1)).toNat:Int) = _
 rw [abU,BitVec.not_allOnes,BitVec.and_zero]
 decide
theorem ahV (a b:Wd):Dz (kW (-1)) a b = a:=Wd.dJ (by
 show Qx (tC a.v (kW (-1)).v) (Ho b.v (kW (-1)).v) = a.v
 rw [tH (by decide),ahT a.ok,ahU b.ok,or_none a.ok])
theorem aeC (a b:Wd):Dz (kW 0) a b = b:=Wd.dJ (by
 show Qx (tC a.v (kW 0).v) (Ho b.v (kW 0).v) = b.v
 rw [tH (by decide),aeA,aeB b.ok,none_or b.ok])
end Go.Proofs.YtjcgiddgafjdpaaGreatDoor

/- The plain words of layer 1: Mod, Signed, Low, Plain. -/
namespace Go.Proofs.YtjcgiddgafjdpaaGreatDoor
open Go.RowKit Go.Deep
set_option linter.unusedVariables false
theorem Tt {x n:Int} (hn:0 < n):x % n = if x.tmod n < 0 then x.tmod n + n else x.tmod n:=by
 rw [Int.tmod_eq_emod]
 have h1:=Int.emod_nonneg x (by omega:n≠0)
 have h2:=Int.emod_lt_of_pos x hn
 split <;> split <;> omega
set_option maxRecDepth 100000 in
set_option maxHeartbeats 1000000 in
theorem uT (x n:Int) (w:World) (hx:-9223372036854775808≤x∧x≤9223372036854775807) (hn:0 < n∧n≤9223372036854775807) :
 Calls Tryz.prog 131 #[.int .i64 x,.int .i64 n] w fun e w' => e = .returned (.int .i64 (x % n))∧w = w':=by
 have hm:=@Tt x n hn.1
 have h1:=Int.emod_nonneg x (by omega:n≠0)
 have h2:=Int.emod_lt_of_pos x hn.1
 by_cases h0:x.tmod n < 0
 · rw [if_pos h0] at hm
   go_enter Tryz.func131,Tryz.ntmps131
   go_wp2_with fail
   go_ret
   exact ⟨by first | rfl | (rw [hm]; rfl),rfl⟩
 · rw [if_neg h0] at hm
   go_enter Tryz.func131,Tryz.ntmps131
   go_wp2_with fail
   go_ret
   exact ⟨by first | rfl | (rw [hm]; rfl),rfl⟩
set_option maxRecDepth 100000 in
set_option maxHeartbeats 1000000 in
theorem Tv (x:Int) (w:World) (hx:-9223372036854775808≤x∧x≤9223372036854775807) :
 Calls Tryz.prog 71 #[.int .i64 x,.int .i64 32] w fun e w' => e = .returned (.int .i64 (wrap32 x))∧w = w':=by
 go_enter Tryz.func71,Tryz.ntmps71
 go_wp2_with fail
 go_loopw [5,6] (fun m i wr => ∃ k:Nat,k≤32∧i = .int .i64 k∧m = .int .i64 ((2:Int) ^ k)∧w = wr) (fun m i _ => 32 - (intOf i).toNat)
 case atStart => exact ⟨0,by omega,rfl,rfl,rfl⟩
 case round =>
  obtain ⟨k,hk,rfl,rfl,rfl⟩:=hrel
  by_cases hlt:k < 32
  · have hp : (2 : Int) ^ k ≤ 2147483648 := by
     have:(2:Int) ^ k≤2 ^ 31:=by exact_mod_cast Nat.pow_le_pow_right (by omega:1≤2) (by omega:k≤31)
     simpa using this
    have hq:0 < (2:Int) ^ k:=Int.pow_pos (by omega)
    have hs:(2:Int) * 2 ^ k = 2 ^ (k + 1):=by rw [Int.pow_succ,Int.mul_comm]
    generalize hP:(2:Int) ^ k = p at *
    go_wp2_with fail
    go_roundw
    case rel => exact ⟨k + 1,by omega,by go_num,by first | rfl | rw [hs],by trivial⟩
    case measure => simp [intOf]; omega
  · obtain rfl:k = 32:=by omega
    go_wp2_with fail
    refine (uT x 4294967296 _ hx (by omega)).mono ?_
    rintro e w' ⟨rfl,rfl⟩
    by_cases hg:2147483648≤x % 4294967296
    · have hw:wrap32 x = x % 4294967296 - 4294967296:=by unfold wrap32; omega
      have hb:x % 4294967296 < 4294967296:=by omega
      generalize x % 4294967296 = y at *
      go_wp2
      go_ret
      exact ⟨by rw [hw]; rfl,rfl⟩
    · have hw:wrap32 x = x % 4294967296:=by unfold wrap32; omega
      have hb:0≤x % 4294967296:=by omega
      generalize x % 4294967296 = y at *
      go_wp2
      go_ret
      exact ⟨by rw [hw]; rfl,rfl⟩
set_option maxRecDepth 100000 in
set_option maxHeartbeats 1000000 in
theorem ab1 (x:Int) (w:World) (hx:-9223372036854775808≤x∧x≤9223372036854775807) :
 Calls Tryz.prog 70 #[.int .i64 x] w fun e w' => e = .returned (.int .i32 (wrap32 x))∧w = w':=by
 have hb:-2147483648≤wrap32 x∧wrap32 x≤2147483647:=by unfold wrap32; omega
 go_enter Tryz.func70,Tryz.ntmps70
 go_wp2_with fail
 refine (Tv x _ hx).mono ?_
 rintro e w' ⟨rfl,rfl⟩
 generalize hy:wrap32 x = y at *
 go_wp2
 go_ret
 refine ⟨?_,rfl⟩
 first | rfl | (rw [hy]; rfl)
set_option maxRecDepth 100000 in
set_option maxHeartbeats 1000000 in
theorem U5 (x:Int) (w:World) (hx:-2147483648≤x∧x≤2147483647) :
 Calls Tryz.prog 260 #[.int .i32 x] w fun e w' => e = .returned (.int .i64 (x % 4294967296))∧w = w':=by
 go_enter Tryz.func260,Tryz.ntmps260
 go_wp2_with fail
 refine (uT x 4294967296 _ (by omega) (by omega)).mono ?_
 rintro e w' ⟨rfl,rfl⟩
 go_wp2
 go_ret
 exact ⟨rfl,rfl⟩
def sqP (x:Int):Int:=wrap32 (x * x) % 4294967296
def WT (a b c:Int):Int:=wrap32 (sqP a + sqP b + sqP c)
def inside (lo hi a b c:Int):Bool:=decide (lo≤WT a b c % 4294967296) && decide (WT a b c % 4294967296≤hi)
def Zl (m:Wd) (f:Int):Int:=if m.v = 0 then f else 0
def ab_ (ga gm:Wd):Int:=Zl ga 2 + Zl gm 4
def pq (a b c d:Wd):Bool:=(jI a b c d).v != 0
end Go.Proofs.YtjcgiddgafjdpaaGreatDoor
