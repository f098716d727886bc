/- Texts of this claim, side by side: Num2, Alu, Mill2, In32, Wd, Wdef, BitLaw, Ref01, Ref32, Ref32b, TopDef, NextDef, OfDef. -/
import Derived.Test.YtjcgiddgafjdpaaGreatDoorFR1
import Derived.Test.YtjcgiddgafjdpaaGreatDoorShelfB
/- fix, word, clz. -/
namespace Go.Proofs.YtjcgiddgafjdpaaGreatDoor
open Go.RowKit Go.Deep
set_option linter.unusedVariables false
def clzI (a:Int):Int:=32 - (Lib.bitLen (a % 4294967296).toNat:Int)
def mulI (a b:Int):Int:=wrap32 (a * b % 4294967296)
def mulqI (a b:Int):Int:=satI (a * b / 1073741824 + a * b / 536870912 % 2)
set_option maxHeartbeats 400000 in
theorem sabs_calls (a:Int) (w:World) (ha:-2147483648≤a∧a≤2147483647) :
 Calls Tryz.prog 361 #[.int .i32 a] w fun e w' => e = .returned (.int .i32 (absI a))∧Chg w w' []:=by
 obtain ⟨n,hn⟩:∃ n,n = negI a:=⟨_,rfl⟩
 have e:absI a = max a n:=by unfold absI; rw [hn]
 rw [e]
 have HN:=hide hn
 clear hn e
 go_enter Tryz.func361,Tryz.ntmps361
 go_wp2_with fail
 refine (sneg_calls a _ ha).mono ?_
 rintro e w1 ⟨rfl,hc⟩
 rw [← HN.out]
 have HC:=hide hc
 clear hc HN
 go_wp2
 all_goals
  go_ret
  exact ⟨by first | (rw [show max a n = if a < n then n else a by split <;> omega]; rfl) | (rw [show max a n = n by omega]; rfl) | (rw [show max a n = a by omega]; rfl),HC.out⟩
set_option maxHeartbeats 400000 in
theorem clz_calls (a:Int) (w:World) (ha:-2147483648≤a∧a≤2147483647) :
 Calls Tryz.prog 359 #[.int .i32 a] w fun e w' => e = .returned (.int .i32 (clzI a))∧w = w':=by
 have l:=Any.bitLen_le32 (a % 4294967296) (by omega) (by omega)
 have hw:wrap32 (32 - (Lib.bitLen (a % 4294967296).toNat:Int)) = clzI a:=by unfold clzI wrap32; omega
 have HW:=hide hw
 clear hw
 go_enter Tryz.func359,Tryz.ntmps359
 go_wp2_with fail
 refine (Tryz.bits_LeadingZeros32 _ _ (by omega) (by omega)).mono ?_
 rintro e w1 ⟨rfl,rfl⟩
 clear l
 generalize (32 - (Lib.bitLen (a % 4294967296).toNat:Int)) = n at *
 go_wp2
 go_ret
 exact ⟨by rw [← HW.out]; rfl,rfl⟩
set_option maxHeartbeats 400000 in
theorem mull_calls (a b:Int) (w:World) (ha:-2147483648≤a∧a≤2147483647) (hb:-2147483648≤b∧b≤2147483647) :
 Calls Tryz.prog 293 #[.int .i32 a,.int .i32 b] w fun e w' => e = .returned (.int .i32 (mulI a b))∧Chg w w' []:=by
 have e:mulI a b = wrap32 (wrap64 (a * b) % 4294967296):=by
  unfold mulI
  generalize a * b = p
  unfold wrap64; congr 1; omega
 rw [e]
 clear e
 go_enter Tryz.func293,Tryz.ntmps293
 go_wp2
 go_ret
 exact ⟨rfl,(Chg.refl w []).alloc _⟩
theorem and_one_i64 (x:Int):bits BinOp.and IntKind.i64 x 1 = x % 2:=by
 show IntKind.i64.wrap ((BitVec.ofInt 64 x &&& BitVec.ofInt 64 1).toNat:Int) = _
 have h2:(BitVec.ofInt 64 1).toNat = 1:=by decide
 rw [BitVec.toNat_and,h2,Nat.and_one_is_mod,IntKind.wrap_i64,BitVec.toNat_ofInt]
 omega
set_option maxHeartbeats 400000 in
theorem scaled_calls (w:World):Calls Tryz.prog 334 #[.int .i64 30] w fun e w' => e = .returned (.agg #[.func (.func 357) #[] #[.pointer (some ⟨w.heap.size,0,none⟩)]])∧Chg w w' []∧w'.cell? ⟨w.heap.size,0,none⟩ = some (.int .i64 30)∧w.heap.size < w'.heap.size:=by
 have hc:=(Blk.new w 3 [.int .i64 30])
 have hz:=Blk.new (w.alloc (.cells #[.int .i64 30] 3)) 375 [(.func (.func 357) #[] #[.pointer (some ⟨w.heap.size,0,none⟩)])]
 have h1:=hc.alloc (.cells #[(.func (.func 357) #[] #[.pointer (some ⟨w.heap.size,0,none⟩)])] 375)
 have c1:=h1.cell' (i:=0) rfl
 have c2:=hz.cell' (i:=0) rfl
 rw [size_alloc] at c2
 have HC:=hide (((Chg.refl w []).alloc (.cells #[.int .i64 30] 3)).alloc (.cells #[(.func (.func 357) #[] #[.pointer (some ⟨w.heap.size,0,none⟩)])] 375))
 clear hc hz h1
 go_enter Tryz.func334,Tryz.ntmps334
 go_wp2
 refine bodyPost_ret (v:=.agg #[.func (.func 357) #[] #[.pointer (some ⟨w.heap.size,0,none⟩)]]) ?_ rfl ⟨rfl,HC.out,c1,by simp; omega⟩
 simp [results,Tryz.f334,go_sem,c2]
set_option maxHeartbeats 400000 in
theorem scaled1_calls (x:Int) (p:Addr) (w:World) (hp:w.cell? p = some (.int .i64 30)) (hx:-4611686018427387904≤x∧x≤4611686018427387904):Calls Tryz.prog 357 #[.int .i64 x,.pointer (some p)] w fun e w' => e = .returned (.int .i32 (satI (x / 1073741824 + x / 536870912 % 2)))∧w = w':=by
 have hb:=and_one_i64 (x / 536870912)
 have hw:wrap64 (x / 1073741824 + x / 536870912 % 2) = x / 1073741824 + x / 536870912 % 2:=by unfold wrap64; omega
 go_enter Tryz.func357,Tryz.ntmps357
 go_wp2
 go_ret
 exact ⟨by simp only [satI]; rfl,rfl⟩
theorem prod_bound {a b:Int} (ha:-2147483648≤a∧a≤2147483647) (hb:-2147483648≤b∧b≤2147483647):-4611686018427387904≤a * b∧a * b≤4611686018427387904:=by
 have h:(a * b).natAbs≤2147483648 * 2147483648:=by
  rw [Int.natAbs_mul]; exact Nat.mul_le_mul (by omega) (by omega)
 omega
set_option maxHeartbeats 400000 in
theorem of_calls (a b:Int) (p:Addr) (w:World) (ha:-2147483648≤a∧a≤2147483647) (hb:-2147483648≤b∧b≤2147483647) (hp:w.cell? p = some (.int .i64 30)) :
 Calls Tryz.prog 332 #[.agg #[.func (.func 357) #[] #[.pointer (some p)]],.int .i32 a,.int .i32 b] w fun e w' => e = .returned (.int .i32 (mulqI a b))∧Chg w w' []:=by
 have hpb:=prod_bound ha hb
 have hm:wrap64 (a * b) = a * b:=by generalize a * b = p at *; unfold wrap64; omega
 have hp1:=fun o => ((Chg.refl w []).alloc o).cell hp (by simp)
 go_enter Tryz.func332,Tryz.ntmps332
 go_wp2_with fail
 refine (scaled1_calls _ _ _ (hp1 _) hpb).mono ?_
 rintro e w1 ⟨rfl,rfl⟩
 go_wp2
 go_ret
 exact ⟨rfl,(Chg.refl w []).alloc _⟩
set_option maxHeartbeats 400000 in
theorem mulq_calls (a b:Int) (w:World) (ha:-2147483648≤a∧a≤2147483647) (hb:-2147483648≤b∧b≤2147483647) :
 Calls Tryz.prog 295 #[.int .i32 a,.int .i32 b] w fun e w' => e = .returned (.int .i32 (mulqI a b))∧Chg w w' []:=by
 go_enter Tryz.func295,Tryz.ntmps295
 go_wp2_with fail
 refine (scaled_calls _).mono ?_
 rintro e w1 ⟨rfl,hc,hp,_⟩
 have HC:=hide hc
 clear hc
 go_wp2_with fail
 refine (of_calls a b _ _ ha hb hp).mono ?_
 rintro e w2 ⟨rfl,hc⟩
 have HC2:=hide hc
 clear hc
 go_wp2
 go_ret
 exact ⟨rfl,HC.out.trans HC2.out (by simp)⟩
def addI (a b:Int):Int:=wrap32 (a + b)
def subI (a b:Int):Int:=wrap32 (a - b)
def andI (a b:Int):Int:=bits BinOp.and IntKind.i32 a b
def orI (a b:Int):Int:=bits BinOp.or IntKind.i32 a b
def xorI (a b:Int):Int:=bits BinOp.xor IntKind.i32 a b
def bicI (a b:Int):Int:=bits BinOp.andNot IntKind.i32 a b
abbrev In32 (a:Int):Prop:=-2147483648≤a∧a≤2147483647
set_option maxRecDepth 100000 in
set_option maxHeartbeats 1000000 in
theorem do_add (a b:Int) (w:World) (ha:In32 a) (hb:In32 b):Calls Tryz.prog 173 #[.int .i64 1,.int .i32 a,.int .i32 b] w fun e w' => e = .returned (.tuple #[.int .i32 (addI a b),.bool true])∧Chg w w' []:=by
 have HC:=hide (Chg.refl w [])
 go_enter Tryz.func173,Tryz.ntmps173
 go_wp2
 go_ret2
 exact ⟨rfl,HC.out⟩
set_option maxRecDepth 100000 in
set_option maxHeartbeats 1000000 in
theorem do_sub (a b:Int) (w:World) (ha:In32 a) (hb:In32 b):Calls Tryz.prog 173 #[.int .i64 2,.int .i32 a,.int .i32 b] w fun e w' => e = .returned (.tuple #[.int .i32 (subI a b),.bool true])∧Chg w w' []:=by
 have HC:=hide (Chg.refl w [])
 go_enter Tryz.func173,Tryz.ntmps173
 go_wp2
 go_ret2
 exact ⟨rfl,HC.out⟩
set_option maxRecDepth 100000 in
set_option maxHeartbeats 1000000 in
theorem do_adds (a b:Int) (w:World) (ha:In32 a) (hb:In32 b):Calls Tryz.prog 173 #[.int .i64 3,.int .i32 a,.int .i32 b] w fun e w' => e = .returned (.tuple #[.int .i32 (addsI a b),.bool true])∧Chg w w' []:=by
 go_enter Tryz.func173,Tryz.ntmps173
 go_wp2_with fail
 refine (sadd_calls a b _ ha hb).mono ?_
 rintro e w1 ⟨rfl,hc⟩
 have HC:=hide hc
 clear hc
 go_wp2
 go_ret2
 exact ⟨rfl,HC.out⟩
set_option maxRecDepth 100000 in
set_option maxHeartbeats 1000000 in
theorem do_subs (a b:Int) (w:World) (ha:In32 a) (hb:In32 b):Calls Tryz.prog 173 #[.int .i64 4,.int .i32 a,.int .i32 b] w fun e w' => e = .returned (.tuple #[.int .i32 (subsI a b),.bool true])∧Chg w w' []:=by
 go_enter Tryz.func173,Tryz.ntmps173
 go_wp2_with fail
 refine (ssub_calls a b _ ha hb).mono ?_
 rintro e w1 ⟨rfl,hc⟩
 have HC:=hide hc
 clear hc
 go_wp2
 go_ret2
 exact ⟨rfl,HC.out⟩
set_option maxRecDepth 100000 in
set_option maxHeartbeats 1000000 in
theorem do_and (a b:Int) (w:World) (ha:In32 a) (hb:In32 b):Calls Tryz.prog 173 #[.int .i64 5,.int .i32 a,.int .i32 b] w fun e w' => e = .returned (.tuple #[.int .i32 (andI a b),.bool true])∧Chg w w' []:=by
 have HC:=hide (Chg.refl w [])
 go_enter Tryz.func173,Tryz.ntmps173
 go_wp2
 go_ret2
 exact ⟨rfl,HC.out⟩
set_option maxRecDepth 100000 in
set_option maxHeartbeats 1000000 in
theorem do_or (a b:Int) (w:World) (ha:In32 a) (hb:In32 b):Calls Tryz.prog 173 #[.int .i64 6,.int .i32 a,.int .i32 b] w fun e w' => e = .returned (.tuple #[.int .i32 (orI a b),.bool true])∧Chg w w' []:=by
 have HC:=hide (Chg.refl w [])
 go_enter Tryz.func173,Tryz.ntmps173
 go_wp2
 go_ret2
 exact ⟨rfl,HC.out⟩
set_option maxRecDepth 100000 in
set_option maxHeartbeats 1000000 in
theorem do_xor (a b:Int) (w:World) (ha:In32 a) (hb:In32 b):Calls Tryz.prog 173 #[.int .i64 7,.int .i32 a,.int .i32 b] w fun e w' => e = .returned (.tuple #[.int .i32 (xorI a b),.bool true])∧Chg w w' []:=by
 have HC:=hide (Chg.refl w [])
 go_enter Tryz.func173,Tryz.ntmps173
 go_wp2
 go_ret2
 exact ⟨rfl,HC.out⟩
set_option maxRecDepth 100000 in
set_option maxHeartbeats 1000000 in
theorem do_bic (a b:Int) (w:World) (ha:In32 a) (hb:In32 b):Calls Tryz.prog 173 #[.int .i64 8,.int .i32 a,.int .i32 b] w fun e w' => e = .returned (.tuple #[.int .i32 (bicI a b),.bool true])∧Chg w w' []:=by
 have HC:=hide (Chg.refl w [])
 go_enter Tryz.func173,Tryz.ntmps173
 go_wp2
 go_ret2
 exact ⟨rfl,HC.out⟩
set_option maxRecDepth 100000 in
set_option maxHeartbeats 1000000 in
theorem do_shl (a b:Int) (w:World) (ha:In32 a) (hb:In32 b):Calls Tryz.prog 173 #[.int .i64 9,.int .i32 a,.int .i32 b] w fun e w' => e = .returned (.tuple #[.int .i32 (shlI a b),.bool true])∧Chg w w' []:=by
 go_enter Tryz.func173,Tryz.ntmps173
 go_wp2_with fail
 refine (shl_calls a b _).mono ?_
 rintro e w1 ⟨rfl,hc⟩
 have HC:=hide hc
 clear hc
 go_wp2
 go_ret2
 exact ⟨rfl,HC.out⟩
set_option maxRecDepth 100000 in
set_option maxHeartbeats 1000000 in
theorem do_shr (a b:Int) (w:World) (ha:In32 a) (hb:In32 b):Calls Tryz.prog 173 #[.int .i64 10,.int .i32 a,.int .i32 b] w fun e w' => e = .returned (.tuple #[.int .i32 (shrI a b),.bool true])∧Chg w w' []:=by
 go_enter Tryz.func173,Tryz.ntmps173
 go_wp2_with fail
 refine (shr_calls a b _).mono ?_
 rintro e w1 ⟨rfl,hc⟩
 have HC:=hide hc
 clear hc
 go_wp2
 go_ret2
 exact ⟨rfl,HC.out⟩
set_option maxRecDepth 100000 in
set_option maxHeartbeats 1000000 in
theorem do_sar (a b:Int) (w:World) (ha:In32 a) (hb:In32 b):Calls Tryz.prog 173 #[.int .i64 11,.int .i32 a,.int .i32 b] w fun e w' => e = .returned (.tuple #[.int .i32 (sarI a b),.bool true])∧Chg w w' []:=by
 go_enter Tryz.func173,Tryz.ntmps173
 go_wp2_with fail
 refine (sar_calls a b _).mono ?_
 rintro e w1 ⟨rfl,hc⟩
 have HC:=hide hc
 clear hc
 go_wp2
 go_ret2
 exact ⟨rfl,HC.out⟩
set_option maxRecDepth 100000 in
set_option maxHeartbeats 1000000 in
theorem do_slt (a b:Int) (w:World) (ha:In32 a) (hb:In32 b):Calls Tryz.prog 173 #[.int .i64 13,.int .i32 a,.int .i32 b] w fun e w' => e = .returned (.tuple #[.int .i32 (ltI a b),.bool true])∧Chg w w' []:=by
 have HC:=hide (Chg.refl w [])
 go_enter Tryz.func173,Tryz.ntmps173
 go_wp2_with fail
 refine (less_calls a b _).mono ?_
 rintro e w1 ⟨rfl,rfl⟩
 go_wp2
 go_ret2
 exact ⟨rfl,HC.out⟩
set_option maxRecDepth 100000 in
set_option maxHeartbeats 1000000 in
theorem do_sltu (a b:Int) (w:World) (ha:In32 a) (hb:In32 b):Calls Tryz.prog 173 #[.int .i64 14,.int .i32 a,.int .i32 b] w fun e w' => e = .returned (.tuple #[.int .i32 (ltuI a b),.bool true])∧Chg w w' []:=by
 have HC:=hide (Chg.refl w [])
 go_enter Tryz.func173,Tryz.ntmps173
 go_wp2_with fail
 refine (under_calls a b _).mono ?_
 rintro e w1 ⟨rfl,rfl⟩
 go_wp2
 go_ret2
 exact ⟨rfl,HC.out⟩
set_option maxRecDepth 100000 in
set_option maxHeartbeats 1000000 in
theorem do_seq (a b:Int) (w:World) (ha:In32 a) (hb:In32 b):Calls Tryz.prog 173 #[.int .i64 15,.int .i32 a,.int .i32 b] w fun e w' => e = .returned (.tuple #[.int .i32 (eqI a b),.bool true])∧Chg w w' []:=by
 have HC:=hide (Chg.refl w [])
 go_enter Tryz.func173,Tryz.ntmps173
 go_wp2_with fail
 refine (same_calls a b _).mono ?_
 rintro e w1 ⟨rfl,rfl⟩
 go_wp2
 go_ret2
 exact ⟨rfl,HC.out⟩
set_option maxRecDepth 100000 in
set_option maxHeartbeats 1000000 in
theorem product_mul (a b:Int) (w:World) (ha:In32 a) (hb:In32 b):Calls Tryz.prog 250 #[.int .i64 18,.int .i32 a,.int .i32 b] w fun e w' => e = .returned (.tuple #[.int .i32 (mulI a b),.bool true])∧Chg w w' []:=by
 go_enter Tryz.func250,Tryz.ntmps250
 go_wp2_with fail
 refine (mull_calls a b _ ha hb).mono ?_
 rintro e w1 ⟨rfl,hc⟩
 have HC:=hide hc
 clear hc
 go_wp2
 go_ret2
 exact ⟨rfl,HC.out⟩
set_option maxRecDepth 100000 in
set_option maxHeartbeats 1000000 in
theorem do_mul (a b:Int) (w:World) (ha:In32 a) (hb:In32 b):Calls Tryz.prog 173 #[.int .i64 18,.int .i32 a,.int .i32 b] w fun e w' => e = .returned (.tuple #[.int .i32 (mulI a b),.bool true])∧Chg w w' []:=by
 go_enter Tryz.func173,Tryz.ntmps173
 go_wp2_with fail
 refine (product_mul a b _ ha hb).mono ?_
 rintro e w1 ⟨rfl,hc⟩
 have HC:=hide hc
 clear hc
 go_wp2
 go_ret2
 exact ⟨rfl,HC.out⟩
set_option maxRecDepth 100000 in
set_option maxHeartbeats 1000000 in
theorem product_mulq (a b:Int) (w:World) (ha:In32 a) (hb:In32 b):Calls Tryz.prog 250 #[.int .i64 20,.int .i32 a,.int .i32 b] w fun e w' => e = .returned (.tuple #[.int .i32 (mulqI a b),.bool true])∧Chg w w' []:=by
 go_enter Tryz.func250,Tryz.ntmps250
 go_wp2_with fail
 refine (mulq_calls a b _ ha hb).mono ?_
 rintro e w1 ⟨rfl,hc⟩
 have HC:=hide hc
 clear hc
 go_wp2
 go_ret2
 exact ⟨rfl,HC.out⟩
set_option maxRecDepth 100000 in
set_option maxHeartbeats 1000000 in
theorem do_mulq (a b:Int) (w:World) (ha:In32 a) (hb:In32 b):Calls Tryz.prog 173 #[.int .i64 20,.int .i32 a,.int .i32 b] w fun e w' => e = .returned (.tuple #[.int .i32 (mulqI a b),.bool true])∧Chg w w' []:=by
 go_enter Tryz.func173,Tryz.ntmps173
 go_wp2_with fail
 refine (product_mulq a b _ ha hb).mono ?_
 rintro e w1 ⟨rfl,hc⟩
 have HC:=hide hc
 clear hc
 go_wp2
 go_ret2
 exact ⟨rfl,HC.out⟩
set_option maxRecDepth 100000 in
set_option maxHeartbeats 1000000 in
theorem single_clz (a:Int) (w:World) (ha:In32 a):Calls Tryz.prog 336 #[.int .i32 a] w fun e w' => e = .returned (.int .i32 (clzI a))∧Chg w w' []:=by
 have HC:=hide (Chg.refl w [])
 go_enter Tryz.func336,Tryz.ntmps336
 go_wp2_with fail
 refine (clz_calls a _ ha).mono ?_
 rintro e w1 ⟨rfl,rfl⟩
 go_wp2
 go_ret
 exact ⟨rfl,HC.out⟩
set_option maxRecDepth 100000 in
set_option maxHeartbeats 1000000 in
theorem apply_clz (a:Int) (w:World) (ha:In32 a):Calls Tryz.prog 335 #[.func (.func 336) #[] #[],.int .i32 a] w fun e w' => e = .returned (.tuple #[.int .i32 (clzI a),.bool true])∧Chg w w' []:=by
 go_enter Tryz.func335,Tryz.ntmps335
 go_wp2_with fail
 refine (single_clz a _ ha).mono ?_
 rintro e w1 ⟨rfl,hc⟩
 have HC:=hide hc
 clear hc
 go_wp2
 go_ret2
 exact ⟨rfl,HC.out⟩
set_option maxRecDepth 100000 in
set_option maxHeartbeats 1000000 in
theorem alone_clz (a:Int) (w:World) (ha:In32 a):Calls Tryz.prog 297 #[.int .i64 24,.int .i32 a] w fun e w' => e = .returned (.tuple #[.int .i32 (clzI a),.bool true])∧Chg w w' []:=by
 go_enter Tryz.func297,Tryz.ntmps297
 go_wp2_with fail
 refine (apply_clz a _ ha).mono ?_
 rintro e w1 ⟨rfl,hc⟩
 have HC:=hide hc
 clear hc
 go_wp2
 go_ret2
 exact ⟨rfl,HC.out⟩
set_option maxRecDepth 100000 in
set_option maxHeartbeats 1000000 in
theorem product_clz (a b:Int) (w:World) (ha:In32 a) (hb:In32 b):Calls Tryz.prog 250 #[.int .i64 24,.int .i32 a,.int .i32 b] w fun e w' => e = .returned (.tuple #[.int .i32 (clzI a),.bool true])∧Chg w w' []:=by
 go_enter Tryz.func250,Tryz.ntmps250
 go_wp2_with fail
 refine (alone_clz a _ ha).mono ?_
 rintro e w1 ⟨rfl,hc⟩
 have HC:=hide hc
 clear hc
 go_wp2
 go_ret2
 exact ⟨rfl,HC.out⟩
set_option maxRecDepth 100000 in
set_option maxHeartbeats 1000000 in
theorem do_clz (a b:Int) (w:World) (ha:In32 a) (hb:In32 b):Calls Tryz.prog 173 #[.int .i64 24,.int .i32 a,.int .i32 b] w fun e w' => e = .returned (.tuple #[.int .i32 (clzI a),.bool true])∧Chg w w' []:=by
 go_enter Tryz.func173,Tryz.ntmps173
 go_wp2_with fail
 refine (product_clz a b _ ha hb).mono ?_
 rintro e w1 ⟨rfl,hc⟩
 have HC:=hide hc
 clear hc
 go_wp2
 go_ret2
 exact ⟨rfl,HC.out⟩
set_option maxRecDepth 100000 in
set_option maxHeartbeats 1000000 in
theorem single_neg (a:Int) (w:World) (ha:In32 a):Calls Tryz.prog 337 #[.int .i32 a] w fun e w' => e = .returned (.int .i32 (negI a))∧Chg w w' []:=by
 go_enter Tryz.func337,Tryz.ntmps337
 go_wp2_with fail
 refine (sneg_calls a _ ha).mono ?_
 rintro e w1 ⟨rfl,hc⟩
 have HC:=hide hc
 clear hc
 go_wp2
 go_ret
 exact ⟨rfl,HC.out⟩
set_option maxRecDepth 100000 in
set_option maxHeartbeats 1000000 in
theorem apply_neg (a:Int) (w:World) (ha:In32 a):Calls Tryz.prog 335 #[.func (.func 337) #[] #[],.int .i32 a] w fun e w' => e = .returned (.tuple #[.int .i32 (negI a),.bool true])∧Chg w w' []:=by
 go_enter Tryz.func335,Tryz.ntmps335
 go_wp2_with fail
 refine (single_neg a _ ha).mono ?_
 rintro e w1 ⟨rfl,hc⟩
 have HC:=hide hc
 clear hc
 go_wp2
 go_ret2
 exact ⟨rfl,HC.out⟩
set_option maxRecDepth 100000 in
set_option maxHeartbeats 1000000 in
theorem alone_neg (a:Int) (w:World) (ha:In32 a):Calls Tryz.prog 297 #[.int .i64 25,.int .i32 a] w fun e w' => e = .returned (.tuple #[.int .i32 (negI a),.bool true])∧Chg w w' []:=by
 go_enter Tryz.func297,Tryz.ntmps297
 go_wp2_with fail
 refine (apply_neg a _ ha).mono ?_
 rintro e w1 ⟨rfl,hc⟩
 have HC:=hide hc
 clear hc
 go_wp2
 go_ret2
 exact ⟨rfl,HC.out⟩
set_option maxRecDepth 100000 in
set_option maxHeartbeats 1000000 in
theorem product_neg (a b:Int) (w:World) (ha:In32 a) (hb:In32 b):Calls Tryz.prog 250 #[.int .i64 25,.int .i32 a,.int .i32 b] w fun e w' => e = .returned (.tuple #[.int .i32 (negI a),.bool true])∧Chg w w' []:=by
 go_enter Tryz.func250,Tryz.ntmps250
 go_wp2_with fail
 refine (alone_neg a _ ha).mono ?_
 rintro e w1 ⟨rfl,hc⟩
 have HC:=hide hc
 clear hc
 go_wp2
 go_ret2
 exact ⟨rfl,HC.out⟩
set_option maxRecDepth 100000 in
set_option maxHeartbeats 1000000 in
theorem do_neg (a b:Int) (w:World) (ha:In32 a) (hb:In32 b):Calls Tryz.prog 173 #[.int .i64 25,.int .i32 a,.int .i32 b] w fun e w' => e = .returned (.tuple #[.int .i32 (negI a),.bool true])∧Chg w w' []:=by
 go_enter Tryz.func173,Tryz.ntmps173
 go_wp2_with fail
 refine (product_neg a b _ ha hb).mono ?_
 rintro e w1 ⟨rfl,hc⟩
 have HC:=hide hc
 clear hc
 go_wp2
 go_ret2
 exact ⟨rfl,HC.out⟩
set_option maxRecDepth 100000 in
set_option maxHeartbeats 1000000 in
theorem single_abs (a:Int) (w:World) (ha:In32 a):Calls Tryz.prog 338 #[.int .i32 a] w fun e w' => e = .returned (.int .i32 (absI a))∧Chg w w' []:=by
 go_enter Tryz.func338,Tryz.ntmps338
 go_wp2_with fail
 refine (sabs_calls a _ ha).mono ?_
 rintro e w1 ⟨rfl,hc⟩
 have HC:=hide hc
 clear hc
 go_wp2
 go_ret
 exact ⟨rfl,HC.out⟩
set_option maxRecDepth 100000 in
set_option maxHeartbeats 1000000 in
theorem apply_abs (a:Int) (w:World) (ha:In32 a):Calls Tryz.prog 335 #[.func (.func 338) #[] #[],.int .i32 a] w fun e w' => e = .returned (.tuple #[.int .i32 (absI a),.bool true])∧Chg w w' []:=by
 go_enter Tryz.func335,Tryz.ntmps335
 go_wp2_with fail
 refine (single_abs a _ ha).mono ?_
 rintro e w1 ⟨rfl,hc⟩
 have HC:=hide hc
 clear hc
 go_wp2
 go_ret2
 exact ⟨rfl,HC.out⟩
set_option maxRecDepth 100000 in
set_option maxHeartbeats 1000000 in
theorem alone_abs (a:Int) (w:World) (ha:In32 a):Calls Tryz.prog 297 #[.int .i64 26,.int .i32 a] w fun e w' => e = .returned (.tuple #[.int .i32 (absI a),.bool true])∧Chg w w' []:=by
 go_enter Tryz.func297,Tryz.ntmps297
 go_wp2_with fail
 refine (apply_abs a _ ha).mono ?_
 rintro e w1 ⟨rfl,hc⟩
 have HC:=hide hc
 clear hc
 go_wp2
 go_ret2
 exact ⟨rfl,HC.out⟩
set_option maxRecDepth 100000 in
set_option maxHeartbeats 1000000 in
theorem product_abs (a b:Int) (w:World) (ha:In32 a) (hb:In32 b):Calls Tryz.prog 250 #[.int .i64 26,.int .i32 a,.int .i32 b] w fun e w' => e = .returned (.tuple #[.int .i32 (absI a),.bool true])∧Chg w w' []:=by
 go_enter Tryz.func250,Tryz.ntmps250
 go_wp2_with fail
 refine (alone_abs a _ ha).mono ?_
 rintro e w1 ⟨rfl,hc⟩
 have HC:=hide hc
 clear hc
 go_wp2
 go_ret2
 exact ⟨rfl,HC.out⟩
set_option maxRecDepth 100000 in
set_option maxHeartbeats 1000000 in
theorem do_abs (a b:Int) (w:World) (ha:In32 a) (hb:In32 b):Calls Tryz.prog 173 #[.int .i64 26,.int .i32 a,.int .i32 b] w fun e w' => e = .returned (.tuple #[.int .i32 (absI a),.bool true])∧Chg w w' []:=by
 go_enter Tryz.func173,Tryz.ntmps173
 go_wp2_with fail
 refine (product_abs a b _ ha hb).mono ?_
 rintro e w1 ⟨rfl,hc⟩
 have HC:=hide hc
 clear hc
 go_wp2
 go_ret2
 exact ⟨rfl,HC.out⟩
set_option maxRecDepth 100000 in
set_option maxHeartbeats 1000000 in
theorem single_sign (a:Int) (w:World) (ha:In32 a):Calls Tryz.prog 340 #[.int .i32 a] w fun e w' => e = .returned (.int .i32 (signI a))∧Chg w w' []:=by
 have HC:=hide (Chg.refl w [])
 go_enter Tryz.func340,Tryz.ntmps340
 go_wp2_with fail
 refine (sign_calls a _).mono ?_
 rintro e w1 ⟨rfl,rfl⟩
 go_wp2
 go_ret
 exact ⟨rfl,HC.out⟩
set_option maxRecDepth 100000 in
set_option maxHeartbeats 1000000 in
theorem apply_sign (a:Int) (w:World) (ha:In32 a):Calls Tryz.prog 335 #[.func (.func 340) #[] #[],.int .i32 a] w fun e w' => e = .returned (.tuple #[.int .i32 (signI a),.bool true])∧Chg w w' []:=by
 go_enter Tryz.func335,Tryz.ntmps335
 go_wp2_with fail
 refine (single_sign a _ ha).mono ?_
 rintro e w1 ⟨rfl,hc⟩
 have HC:=hide hc
 clear hc
 go_wp2
 go_ret2
 exact ⟨rfl,HC.out⟩
set_option maxRecDepth 100000 in
set_option maxHeartbeats 1000000 in
theorem alone_sign (a:Int) (w:World) (ha:In32 a):Calls Tryz.prog 297 #[.int .i64 28,.int .i32 a] w fun e w' => e = .returned (.tuple #[.int .i32 (signI a),.bool true])∧Chg w w' []:=by
 go_enter Tryz.func297,Tryz.ntmps297
 go_wp2_with fail
 refine (apply_sign a _ ha).mono ?_
 rintro e w1 ⟨rfl,hc⟩
 have HC:=hide hc
 clear hc
 go_wp2
 go_ret2
 exact ⟨rfl,HC.out⟩
set_option maxRecDepth 100000 in
set_option maxHeartbeats 1000000 in
theorem product_sign (a b:Int) (w:World) (ha:In32 a) (hb:In32 b):Calls Tryz.prog 250 #[.int .i64 28,.int .i32 a,.int .i32 b] w fun e w' => e = .returned (.tuple #[.int .i32 (signI a),.bool true])∧Chg w w' []:=by
 go_enter Tryz.func250,Tryz.ntmps250
 go_wp2_with fail
 refine (alone_sign a _ ha).mono ?_
 rintro e w1 ⟨rfl,hc⟩
 have HC:=hide hc
 clear hc
 go_wp2
 go_ret2
 exact ⟨rfl,HC.out⟩
set_option maxRecDepth 100000 in
set_option maxHeartbeats 1000000 in
theorem do_sign (a b:Int) (w:World) (ha:In32 a) (hb:In32 b):Calls Tryz.prog 173 #[.int .i64 28,.int .i32 a,.int .i32 b] w fun e w' => e = .returned (.tuple #[.int .i32 (signI a),.bool true])∧Chg w w' []:=by
 go_enter Tryz.func173,Tryz.ntmps173
 go_wp2_with fail
 refine (product_sign a b _ ha hb).mono ?_
 rintro e w1 ⟨rfl,hc⟩
 have HC:=hide hc
 clear hc
 go_wp2
 go_ret2
 exact ⟨rfl,HC.out⟩
def minI (a b:Int):Int:=min a b
def maxI (a b:Int):Int:=max a b
set_option maxRecDepth 100000 in
set_option maxHeartbeats 1000000 in
theorem do_min (a b:Int) (w:World) (ha:In32 a) (hb:In32 b):Calls Tryz.prog 173 #[.int .i64 16,.int .i32 a,.int .i32 b] w fun e w' => e = .returned (.tuple #[.int .i32 (minI a b),.bool true])∧Chg w w' []:=by
 have HC:=hide (Chg.refl w [])
 go_enter Tryz.func173,Tryz.ntmps173
 go_wp2
 go_ret2
 exact ⟨rfl,HC.out⟩
set_option maxRecDepth 100000 in
set_option maxHeartbeats 1000000 in
theorem do_max (a b:Int) (w:World) (ha:In32 a) (hb:In32 b):Calls Tryz.prog 173 #[.int .i64 17,.int .i32 a,.int .i32 b] w fun e w' => e = .returned (.tuple #[.int .i32 (maxI a b),.bool true])∧Chg w w' []:=by
 have HC:=hide (Chg.refl w [])
 go_enter Tryz.func173,Tryz.ntmps173
 go_wp2
 go_ret2
 exact ⟨rfl,HC.out⟩
theorem in_wrap (n:Int):In32 (wrap32 n):=by unfold In32 wrap32; omega
theorem in_sat (n:Int):In32 (satI n):=by unfold In32 satI; omega
theorem in_add (a b:Int):In32 (addI a b):=in_wrap _
theorem in_sub (a b:Int):In32 (subI a b):=in_wrap _
theorem in_adds (a b:Int):In32 (addsI a b):=in_sat _
theorem in_subs (a b:Int):In32 (subsI a b):=in_sat _
theorem wrap_i32' (n:Int):IntKind.i32.wrap n = wrap32 n:=by rw [IntKind.wrap_i32]; unfold wrap32; rfl
theorem in_and (a b:Int):In32 (andI a b):=by
 show In32 (IntKind.i32.wrap _); rw [wrap_i32']; exact in_wrap _
theorem in_or (a b:Int):In32 (orI a b):=by
 show In32 (IntKind.i32.wrap _); rw [wrap_i32']; exact in_wrap _
theorem in_xor (a b:Int):In32 (xorI a b):=by
 show In32 (IntKind.i32.wrap _); rw [wrap_i32']; exact in_wrap _
theorem in_bic (a b:Int):In32 (bicI a b):=by
 show In32 (IntKind.i32.wrap _); rw [wrap_i32']; exact in_wrap _
theorem in_shl (a b:Int):In32 (shlI a b):=in_wrap _
theorem in_shr (a b:Int):In32 (shrI a b):=in_wrap _
theorem in_sar (a b:Int) (h:In32 a):In32 (sarI a b):=by
 unfold In32 sarI at *
 have h2:(1:Int)≤2 ^ sh b:=by
  have:=Nat.one_le_two_pow (n:=sh b)
  exact_mod_cast this
 generalize (2:Int) ^ sh b = d at *
 constructor
 · rw [Int.le_ediv_iff_mul_le (by omega)]
   have:(2147483648:Int) * 1≤2147483648 * d:=Int.mul_le_mul_of_nonneg_left h2 (by omega)
   omega
 · exact Int.ediv_le_of_le_mul (by omega) (by
    have:(2147483647:Int) * 1≤2147483647 * d:=Int.mul_le_mul_of_nonneg_left h2 (by omega)
    omega)
theorem in_lt (a b:Int):In32 (ltI a b):=by unfold In32 ltI; split <;> omega
theorem in_ltu (a b:Int):In32 (ltuI a b):=by unfold In32 ltuI; split <;> omega
theorem in_eq (a b:Int):In32 (eqI a b):=by unfold In32 eqI; split <;> omega
theorem in_mul (a b:Int):In32 (mulI a b):=in_wrap _
theorem in_mulq (a b:Int):In32 (mulqI a b):=in_sat _
theorem in_neg (a:Int):In32 (negI a):=in_sat _
theorem in_abs (a:Int) (h:In32 a):In32 (absI a):=by have:=in_neg a; unfold In32 absI at *; omega
theorem in_sign (a:Int) (h:In32 a):In32 (signI a):=by unfold In32 signI at *; omega
theorem in_clz (a:Int):In32 (clzI a):=by
 have:=Any.bitLen_le32 (a % 4294967296) (by omega) (by omega)
 unfold In32 clzI; omega
theorem in_min (a b:Int) (ha:In32 a) (hb:In32 b):In32 (minI a b):=by unfold In32 minI at *; omega
theorem in_max (a b:Int) (ha:In32 a) (hb:In32 b):In32 (maxI a b):=by unfold In32 maxI at *; omega
structure Wd where
 v:Int
 ok:In32 v
theorem Wd.ext_ {a b:Wd} (h:a.v = b.v):a = b:=by cases a; cases b; cases h; rfl
def kW (n:Int):Wd:=⟨wrap32 n,in_wrap n⟩
theorem kW_v {n:Int} (h:In32 n):(kW n).v = n:=by show wrap32 n = n; unfold In32 at h; unfold wrap32; omega
def addW (a b:Wd):Wd:=⟨addI a.v b.v,in_add _ _⟩
def subW (a b:Wd):Wd:=⟨subI a.v b.v,in_sub _ _⟩
def addsW (a b:Wd):Wd:=⟨addsI a.v b.v,in_adds _ _⟩
def subsW (a b:Wd):Wd:=⟨subsI a.v b.v,in_subs _ _⟩
def andW (a b:Wd):Wd:=⟨andI a.v b.v,in_and _ _⟩
def orW (a b:Wd):Wd:=⟨orI a.v b.v,in_or _ _⟩
def xorW (a b:Wd):Wd:=⟨xorI a.v b.v,in_xor _ _⟩
def bicW (a b:Wd):Wd:=⟨bicI a.v b.v,in_bic _ _⟩
def shlW (a b:Wd):Wd:=⟨shlI a.v b.v,in_shl _ _⟩
def shrW (a b:Wd):Wd:=⟨shrI a.v b.v,in_shr _ _⟩
def sarW (a b:Wd):Wd:=⟨sarI a.v b.v,in_sar _ _ a.ok⟩
def sltW (a b:Wd):Wd:=⟨ltI a.v b.v,in_lt _ _⟩
def sltuW (a b:Wd):Wd:=⟨ltuI a.v b.v,in_ltu _ _⟩
def mulW (a b:Wd):Wd:=⟨mulI a.v b.v,in_mul _ _⟩
def mulqW (a b:Wd):Wd:=⟨mulqI a.v b.v,in_mulq _ _⟩
def minW (a b:Wd):Wd:=⟨minI a.v b.v,in_min _ _ a.ok b.ok⟩
def maxW (a b:Wd):Wd:=⟨maxI a.v b.v,in_max _ _ a.ok b.ok⟩
def clzW (a:Wd):Wd:=⟨clzI a.v,in_clz _⟩
def negW (a:Wd):Wd:=⟨negI a.v,in_neg _⟩
def absW (a:Wd):Wd:=⟨absI a.v,in_abs _ a.ok⟩
def signW (a:Wd):Wd:=⟨signI a.v,in_sign _ a.ok⟩
def selW (m a b:Wd):Wd:=orW (andW a m) (bicW b m)
def flipW (x m:Wd):Wd:=subW (xorW x m) m
def upW (a:Wd) (n:Int):Wd:=⟨shlI a.v n,in_shl _ _⟩
def downW (a:Wd) (n:Int):Wd:=⟨sarI a.v n,in_sar _ _ a.ok⟩
def squareW (a b c:Wd):Wd:=addW (addW (mulW a a) (mulW b b)) (mulW c c)
def withinW (n low high:Wd):Wd:=subW (orW (sltuW n low) (sltuW high n)) (kW 1)
def scaledW (x z h:Wd):Wd:=shlW (mulqW x z) h
def lessW (x:Wd) (l:List Wd):Wd:=l.foldl subsW x
def moreW (x:Wd) (l:List Wd):Wd:=l.foldl addsW x
def normW (x:Wd) (l:List Wd):Wd:=l.foldl (fun s y => addsW s (mulqW y y)) (mulqW x x)
structure Tm where
 a:Nat
 b:Nat
 less:Bool
def pick (l:List Wd) (k:Nat):Wd:=l.getD k (kW 0)
def term (ps qs:List Wd) (t:Tm):Wd:=mulqW (pick ps t.a) (pick qs t.b)
def put1 (ps qs:List Wd) (s:Wd) (t:Tm):Wd:=bif t.less then subsW s (term ps qs t) else addsW s (term ps qs t)
def tot0 (ps qs:List Wd) (t:Tm):Wd:=bif t.less then subsW (kW 0) (term ps qs t) else term ps qs t
def totalW (ps qs:List Wd) (t:Tm) (l:List Tm):Wd:=l.foldl (put1 ps qs) (tot0 ps qs t)
structure Q4 where
 a:Wd
 b:Wd
 c:Wd
 d:Wd
def timesW (a b c d e f g h:Wd):Q4:=⟨totalW [a,b,c,d] [e,f,g,h] ⟨0,0,false⟩ [⟨1,1,true⟩,⟨2,2,true⟩,⟨3,3,true⟩],totalW [a,b,c,d] [e,f,g,h] ⟨0,1,false⟩ [⟨1,0,false⟩,⟨2,3,false⟩,⟨3,2,true⟩],totalW [a,b,c,d] [e,f,g,h] ⟨0,2,false⟩ [⟨1,3,true⟩,⟨2,0,false⟩,⟨3,1,false⟩],totalW [a,b,c,d] [e,f,g,h] ⟨0,3,false⟩ [⟨1,2,false⟩,⟨2,1,true⟩,⟨3,0,false⟩]⟩
def rateW (a b c d e f g:Wd):Q4:=⟨totalW [a,b,c,d] [e,f,g] ⟨1,0,true⟩ [⟨2,1,true⟩,⟨3,2,true⟩],totalW [a,b,c,d] [e,f,g] ⟨0,0,false⟩ [⟨2,2,false⟩,⟨3,1,true⟩],totalW [a,b,c,d] [e,f,g] ⟨0,1,false⟩ [⟨1,2,true⟩,⟨3,0,false⟩],totalW [a,b,c,d] [e,f,g] ⟨0,2,false⟩ [⟨1,1,false⟩,⟨2,0,true⟩]⟩
def pullF0 (q0 q1 q2 q3 a0:Wd):Wd:=lessW (mulqW q1 q3) [mulqW q0 q2,downW a0 1]
def pullF1 (q0 q1 q2 q3 a1:Wd):Wd:=lessW (moreW (mulqW q0 q1) [mulqW q2 q3]) [downW a1 1]
def pullF2 (q1 q2 a2:Wd):Wd:=lessW (kW 536870912) [mulqW q1 q1,mulqW q2 q2,downW a2 1]
def pullOf (q0 q1 q2 q3 f0 f1 f2:Wd):Q4 :=
 ⟨downW (lessW (mulqW q1 f1) [mulqW q2 f0]) 1,lessW (downW (moreW (mulqW q3 f0) [mulqW q0 f1]) 1) [mulqW q1 f2],lessW (downW (lessW (mulqW q3 f1) [mulqW q0 f0]) 1) [mulqW q2 f2],downW (moreW (mulqW q1 f0) [mulqW q2 f1]) 1⟩
def pullW (q0 q1 q2 q3 a0 a1 a2:Wd):Q4:=pullOf q0 q1 q2 q3 (pullF0 q0 q1 q2 q3 a0) (pullF1 q0 q1 q2 q3 a1) (pullF2 q1 q2 a2)
structure T3 where
 a:Wd
 b:Wd
 c:Wd
def errorsW (q0 q1 q2 q3 bx bz f0 f1 f2:Wd):T3 :=
 ⟨lessW (moreW (mulqW bx (lessW (kW 536870912) [mulqW q2 q2,mulqW q3 q3])) [mulqW bz (lessW (mulqW q1 q3) [mulqW q0 q2])]) [downW f0 1],
  lessW (moreW (mulqW bx (lessW (mulqW q1 q2) [mulqW q0 q3])) [mulqW bz (moreW (mulqW q0 q1) [mulqW q2 q3])]) [downW f1 1],
  lessW (moreW (mulqW bx (moreW (mulqW q0 q2) [mulqW q1 q3])) [mulqW bz (lessW (kW 536870912) [mulqW q1 q1,mulqW q2 q2])]) [downW f2 1]⟩
def rootStep (u y:Wd):Wd:=addsW y (downW (mulqW y (subsW (kW 1073741824) (upW (mulqW u (mulqW y y)) 2))) 1)
def rootT (x:Wd):Wd:=andW (clzW x) (kW 30)
def rootU (x:Wd):Wd:=shrW (shlW x (rootT x)) (kW 2)
def rootZ0 (u:Wd):Wd:=subsW (kW 1184766729) (mulqW (kW 715827883) u)
def rootZ (u:Wd):Nat→Wd
 | 0 => rootZ0 u
 | k + 1 => rootStep u (rootZ u k)
def rootW (x:Wd):Wd × Wd:=(rootZ (rootU x) 4,shrW (rootT x) (kW 1))
def sqrtW (x:Wd):Wd:=scaledW x (rootW x).1 (rootW x).2
def pointW (x0 x1 x2:Wd):T3:=⟨scaledW (upW x0 15) (rootW (squareW x0 x1 x2)).1 (rootW (squareW x0 x1 x2)).2,scaledW (upW x1 15) (rootW (squareW x0 x1 x2)).1 (rootW (squareW x0 x1 x2)).2,scaledW (upW x2 15) (rootW (squareW x0 x1 x2)).1 (rootW (squareW x0 x1 x2)).2⟩
def evenW (x0 x1 x2 x3:Wd):Q4:=⟨scaledW x0 (rootW (addsW (normW x0 [x1,x2,x3]) (kW 1024))).1 (rootW (addsW (normW x0 [x1,x2,x3]) (kW 1024))).2,scaledW x1 (rootW (addsW (normW x0 [x1,x2,x3]) (kW 1024))).1 (rootW (addsW (normW x0 [x1,x2,x3]) (kW 1024))).2,scaledW x2 (rootW (addsW (normW x0 [x1,x2,x3]) (kW 1024))).1 (rootW (addsW (normW x0 [x1,x2,x3]) (kW 1024))).2,scaledW x3 (rootW (addsW (normW x0 [x1,x2,x3]) (kW 1024))).1 (rootW (addsW (normW x0 [x1,x2,x3]) (kW 1024))).2⟩
def sumW (a b c e0 e1 e2:Wd):Wd:=downW (moreW (mulqW a e0) [mulqW b e1,mulqW c e2]) 1
def fieldH (q0 q1 q2 q3 f0 f1 f2:Wd):Q4:=timesW (rateW q0 q1 q2 q3 f0 f1 f2).a (rateW q0 q1 q2 q3 f0 f1 f2).b (rateW q0 q1 q2 q3 f0 f1 f2).c (rateW q0 q1 q2 q3 f0 f1 f2).d q0 (negW q1) (negW q2) (negW q3)
def fieldB (q0 q1 q2 q3 f0 f1 f2:Wd):Wd:=sqrtW (normW (fieldH q0 q1 q2 q3 f0 f1 f2).b [(fieldH q0 q1 q2 q3 f0 f1 f2).c])
def fieldZ (q0 q1 q2 q3 f0 f1 f2:Wd):Wd:=(fieldH q0 q1 q2 q3 f0 f1 f2).d
def fieldE (q0 q1 q2 q3 f0 f1 f2:Wd):T3:=errorsW q0 q1 q2 q3 (fieldB q0 q1 q2 q3 f0 f1 f2) (fieldZ q0 q1 q2 q3 f0 f1 f2) f0 f1 f2
def fieldX (q0 q1 q2 q3 f0 f1 f2:Wd):Q4:=⟨mulqW (fieldB q0 q1 q2 q3 f0 f1 f2) q0,mulqW (fieldB q0 q1 q2 q3 f0 f1 f2) q1,mulqW (fieldB q0 q1 q2 q3 f0 f1 f2) q2,mulqW (fieldB q0 q1 q2 q3 f0 f1 f2) q3⟩
def fieldY (q0 q1 q2 q3 f0 f1 f2:Wd):Q4:=⟨mulqW (fieldZ q0 q1 q2 q3 f0 f1 f2) q0,mulqW (fieldZ q0 q1 q2 q3 f0 f1 f2) q1,mulqW (fieldZ q0 q1 q2 q3 f0 f1 f2) q2,mulqW (fieldZ q0 q1 q2 q3 f0 f1 f2) q3⟩
def fieldOf (x y:Q4) (e:T3):Q4 :=
 ⟨sumW (negW y.c) (lessW y.b [x.d]) x.c e.a e.b e.c,
  sumW y.d (moreW x.c [y.a]) (lessW x.d [y.b,y.b]) e.a e.b e.c,
  sumW (negW (moreW x.c [x.c,y.a])) (moreW x.b [y.d]) (lessW x.a [y.c,y.c]) e.a e.b e.c,
  sumW (lessW y.b [x.d,x.d]) (lessW y.c [x.a]) x.b e.a e.b e.c⟩
def fieldW (q0 q1 q2 q3 f0 f1 f2:Wd):Q4:=fieldOf (fieldX q0 q1 q2 q3 f0 f1 f2) (fieldY q0 q1 q2 q3 f0 f1 f2) (fieldE q0 q1 q2 q3 f0 f1 f2)
def turnsL:List Wd:=[kW 421657428,kW 248918915,kW 131521918,kW 66762579,kW 33510843,kW 16771758,kW 8387925,kW 4194219,kW 2097141,kW 1048575,kW 524288,kW 262144,kW 131072,kW 65536,kW 32768,kW 16384,kW 8192,kW 4096,kW 2048,kW 1024,kW 512,kW 256,kW 128,kW 64,kW 32,kW 16,kW 8,kW 4]
def levelW (v s:Wd):Wd:=shrW (shlW v s) (kW 2)
def turnStep (i:Nat) (x y c:Wd):T3:=⟨addW x (flipW (sarW y (kW i)) (signW y)),subW y (flipW (sarW x (kW i)) (signW y)),addW c (flipW (turnsL.getD i (kW 0)) (signW y))⟩
def turnW (x y:Wd):Nat→T3
 | 0 => ⟨x,y,kW 0⟩
 | i + 1 => turnStep i (turnW x y i).a (turnW x y i).b (turnW x y i).c
def angleA (y x:Wd):T3:=turnW (levelW (maxW (absW x) (absW y)) (subW (clzW (maxW (absW x) (absW y))) (kW 1))) (levelW (minW (absW x) (absW y)) (subW (clzW (maxW (absW x) (absW y))) (kW 1))) 28
def angleBof (y x c:Wd):Wd:=selW (negW (sltW (absW x) (absW y))) (subW (kW 843314857) c) c
def angleCof (x b:Wd):Wd:=selW (signW x) (subW (kW 1686629713) b) b
def angleB (y x:Wd):Wd:=angleBof y x (angleA y x).c
def angleC (y x:Wd):Wd:=angleCof x (angleB y x)
def angleW (y x:Wd):Wd:=flipW (angleC y x) (signW y)
def anglesY (q0 q1 q2 q3:Wd):Wd:=moreW (mulqW q0 q1) [mulqW q2 q3]
def anglesX (q0 q1 q2 q3:Wd):Wd:=lessW (kW 536870912) [mulqW q1 q1,mulqW q2 q2]
def anglesS (q0 q1 q2 q3:Wd):Wd:=lessW (mulqW q0 q2) [mulqW q3 q1]
def anglesU (q0 q1 q2 q3:Wd):Wd:=moreW (mulqW q0 q3) [mulqW q1 q2]
def anglesV (q0 q1 q2 q3:Wd):Wd:=lessW (kW 536870912) [mulqW q2 q2,mulqW q3 q3]
def anglesR (q0 q1 q2 q3:Wd):Wd:=sqrtW (normW (anglesX q0 q1 q2 q3) [anglesY q0 q1 q2 q3])
def anglesW (q0 q1 q2 q3:Wd):T3:=⟨angleW (anglesY q0 q1 q2 q3) (anglesX q0 q1 q2 q3),angleW (anglesS q0 q1 q2 q3) (anglesR q0 q1 q2 q3),angleW (anglesU q0 q1 q2 q3) (anglesV q0 q1 q2 q3)⟩
def lockedW (q0 q1 q2 q3:Wd):Wd:=subW (sltW (absW (anglesS q0 q1 q2 q3)) (kW 536000000)) (kW 1)
def unitW (x0 x1 x2 x3:Wd):Q4:=⟨scaledW x0 (rootW (normW x0 [x1,x2,x3])).1 (rootW (normW x0 [x1,x2,x3])).2,scaledW x1 (rootW (normW x0 [x1,x2,x3])).1 (rootW (normW x0 [x1,x2,x3])).2,scaledW x2 (rootW (normW x0 [x1,x2,x3])).1 (rootW (normW x0 [x1,x2,x3])).2,scaledW x3 (rootW (normW x0 [x1,x2,x3])).1 (rootW (normW x0 [x1,x2,x3])).2⟩
def clipW (x:Wd):Wd:=minW (maxW x (kW (-134217728))) (kW 134217728)
def partW (q r b ga:Wd):Wd:=addsW q (clipW (subsW r (andW (downW b 8) ga)))
def sensedA (a0 a1 a2:Wd):Wd:=withinW (squareW a0 a1 a2) (kW 16777216) (kW 150994944)
def sensedM (m0 m1 m2:Wd):Wd:=withinW (squareW m0 m1 m2) (kW 1000000) (kW 400000000)
def sensedP (q0 q1 q2 q3 a0 a1 a2:Wd):Q4:=pullW q0 q1 q2 q3 (pointW a0 a1 a2).a (pointW a0 a1 a2).b (pointW a0 a1 a2).c
def sensedN (q0 q1 q2 q3 m0 m1 m2:Wd):Q4:=fieldW q0 q1 q2 q3 (pointW m0 m1 m2).a (pointW m0 m1 m2).b (pointW m0 m1 m2).c
def downOf (P N:Q4) (gm:Wd):Q4:=⟨addsW P.a (andW N.a gm),addsW P.b (andW N.b gm),addsW P.c (andW N.c gm),addsW P.d (andW N.d gm)⟩
def evenOf (D:Q4):Q4:=evenW D.a D.b D.c D.d
def rateOf (q0 q1 q2 q3 g0 g1 g2:Wd):Q4:=rateW q0 q1 q2 q3 (upW g0 12) (upW g1 12) (upW g2 12)
def stepOf (q0 q1 q2 q3:Wd) (R E:Q4) (ga:Wd):Q4:=unitW (partW q0 R.a E.a ga) (partW q1 R.b E.b ga) (partW q2 R.c E.c ga) (partW q3 R.d E.d ga)
def sensedE (q0 q1 q2 q3 a0 a1 a2 m0 m1 m2:Wd):Q4:=evenOf (downOf (sensedP q0 q1 q2 q3 a0 a1 a2) (sensedN q0 q1 q2 q3 m0 m1 m2) (sensedM m0 m1 m2))
def sensedW (q0 q1 q2 q3 g0 g1 g2 a0 a1 a2 m0 m1 m2:Wd):Q4:=stepOf q0 q1 q2 q3 (rateOf q0 q1 q2 q3 g0 g1 g2) (sensedE q0 q1 q2 q3 a0 a1 a2 m0 m1 m2) (sensedA a0 a1 a2)
end Go.Proofs.YtjcgiddgafjdpaaGreatDoor

/- Words and masks: all ones, or 0. -/
namespace Go.Proofs.YtjcgiddgafjdpaaGreatDoor
open Go.RowKit
set_option linter.unusedVariables false
theorem of_all:BitVec.ofInt 32 (-1) = BitVec.allOnes 32:=by decide
theorem of_zero:BitVec.ofInt 32 0 = 0#32:=by decide
theorem and_all {x:Int} (h:In32 x):andI x (-1) = x:=by
 show IntKind.i32.wrap ((BitVec.ofInt 32 x &&& BitVec.ofInt 32 (-1)).toNat:Int) = _
 rw [of_all,BitVec.and_allOnes,IntKind.wrap_i32,BitVec.toNat_ofInt]
 unfold In32 at h
 omega
theorem and_none (x:Int):andI x 0 = 0:=by
 show IntKind.i32.wrap ((BitVec.ofInt 32 x &&& BitVec.ofInt 32 0).toNat:Int) = _
 rw [of_zero,BitVec.and_zero]
 decide
theorem or_none {x:Int} (h:In32 x):orI x 0 = x:=by
 show IntKind.i32.wrap ((BitVec.ofInt 32 x ||| BitVec.ofInt 32 0).toNat:Int) = _
 rw [of_zero,BitVec.or_zero,IntKind.wrap_i32,BitVec.toNat_ofInt]
 unfold In32 at h
 omega
theorem none_or {x:Int} (h:In32 x):orI 0 x = x:=by
 show IntKind.i32.wrap ((BitVec.ofInt 32 0 ||| BitVec.ofInt 32 x).toNat:Int) = _
 rw [of_zero,BitVec.zero_or,IntKind.wrap_i32,BitVec.toNat_ofInt]
 unfold In32 at h
 omega
theorem bic_none {x:Int} (h:In32 x):bicI x 0 = x:=by
 show IntKind.i32.wrap ((BitVec.ofInt 32 x &&& ~~~BitVec.ofInt 32 0).toNat:Int) = _
 rw [of_zero,BitVec.not_zero,BitVec.and_allOnes,IntKind.wrap_i32,BitVec.toNat_ofInt]
 unfold In32 at h
 omega
theorem bic_all {x:Int} (h:In32 x):bicI x (-1) = 0:=by
 show IntKind.i32.wrap ((BitVec.ofInt 32 x &&& ~~~BitVec.ofInt 32 (-1)).toNat:Int) = _
 rw [of_all,BitVec.not_allOnes,BitVec.and_zero]
 decide
theorem sel_all (a b:Wd):selW (kW (-1)) a b = a:=Wd.ext_ (by
 show orI (andI a.v (kW (-1)).v) (bicI b.v (kW (-1)).v) = a.v
 rw [kW_v (by decide),and_all a.ok,bic_all b.ok,or_none a.ok])
theorem sel_none (a b:Wd):selW (kW 0) a b = b:=Wd.ext_ (by
 show orI (andI a.v (kW 0).v) (bicI b.v (kW 0).v) = b.v
 rw [kW_v (by decide),and_none,bic_none b.ok,none_or b.ok])
end Go.Proofs.YtjcgiddgafjdpaaGreatDoor

/- The plain words of layer 1: Mod, Signed, Low, Plain. -/
namespace Go.Proofs.YtjcgiddgafjdpaaGreatDoor
open Go.RowKit Go.Deep
set_option linter.unusedVariables false
theorem emod_of_tmod {x n:Int} (hn:0 < n):x % n = if x.tmod n < 0 then x.tmod n + n else x.tmod n:=by
 rw [Int.tmod_eq_emod]
 have h1:=Int.emod_nonneg x (by omega:n≠0)
 have h2:=Int.emod_lt_of_pos x hn
 split <;> split <;> omega
set_option maxRecDepth 100000 in
set_option maxHeartbeats 1000000 in
theorem mod_calls (x n:Int) (w:World) (hx:-9223372036854775808≤x∧x≤9223372036854775807) (hn:0 < n∧n≤9223372036854775807) :
 Calls Tryz.prog 131 #[.int .i64 x,.int .i64 n] w fun e w' => e = .returned (.int .i64 (x % n))∧w = w':=by
 have hm:=@emod_of_tmod x n hn.1
 have h1:=Int.emod_nonneg x (by omega:n≠0)
 have h2:=Int.emod_lt_of_pos x hn.1
 by_cases h0:x.tmod n < 0
 · rw [if_pos h0] at hm
   go_enter Tryz.func131,Tryz.ntmps131
   go_wp2_with fail
   go_ret
   exact ⟨by first | rfl | (rw [hm]; rfl),rfl⟩
 · rw [if_neg h0] at hm
   go_enter Tryz.func131,Tryz.ntmps131
   go_wp2_with fail
   go_ret
   exact ⟨by first | rfl | (rw [hm]; rfl),rfl⟩
set_option maxRecDepth 100000 in
set_option maxHeartbeats 1000000 in
theorem signed_calls (x:Int) (w:World) (hx:-9223372036854775808≤x∧x≤9223372036854775807) :
 Calls Tryz.prog 71 #[.int .i64 x,.int .i64 32] w fun e w' => e = .returned (.int .i64 (wrap32 x))∧w = w':=by
 go_enter Tryz.func71,Tryz.ntmps71
 go_wp2_with fail
 go_loopw [5,6] (fun m i wr => ∃ k:Nat,k≤32∧i = .int .i64 k∧m = .int .i64 ((2:Int) ^ k)∧w = wr) (fun m i _ => 32 - (intOf i).toNat)
 case atStart => exact ⟨0,by omega,rfl,rfl,rfl⟩
 case round =>
  obtain ⟨k,hk,rfl,rfl,rfl⟩:=hrel
  by_cases hlt:k < 32
  · have hp : (2 : Int) ^ k ≤ 2147483648 := by
     have:(2:Int) ^ k≤2 ^ 31:=by exact_mod_cast Nat.pow_le_pow_right (by omega:1≤2) (by omega:k≤31)
     simpa using this
    have hq:0 < (2:Int) ^ k:=Int.pow_pos (by omega)
    have hs:(2:Int) * 2 ^ k = 2 ^ (k + 1):=by rw [Int.pow_succ,Int.mul_comm]
    generalize hP:(2:Int) ^ k = p at *
    go_wp2_with fail
    go_roundw
    case rel => exact ⟨k + 1,by omega,by go_num,by first | rfl | rw [hs],by trivial⟩
    case measure => simp [intOf]; omega
  · obtain rfl:k = 32:=by omega
    go_wp2_with fail
    refine (mod_calls x 4294967296 _ hx (by omega)).mono ?_
    rintro e w' ⟨rfl,rfl⟩
    by_cases hg:2147483648≤x % 4294967296
    · have hw:wrap32 x = x % 4294967296 - 4294967296:=by unfold wrap32; omega
      have hb:x % 4294967296 < 4294967296:=by omega
      generalize x % 4294967296 = y at *
      go_wp2
      go_ret
      exact ⟨by rw [hw]; rfl,rfl⟩
    · have hw:wrap32 x = x % 4294967296:=by unfold wrap32; omega
      have hb:0≤x % 4294967296:=by omega
      generalize x % 4294967296 = y at *
      go_wp2
      go_ret
      exact ⟨by rw [hw]; rfl,rfl⟩
set_option maxRecDepth 100000 in
set_option maxHeartbeats 1000000 in
theorem low_calls (x:Int) (w:World) (hx:-9223372036854775808≤x∧x≤9223372036854775807) :
 Calls Tryz.prog 70 #[.int .i64 x] w fun e w' => e = .returned (.int .i32 (wrap32 x))∧w = w':=by
 have hb:-2147483648≤wrap32 x∧wrap32 x≤2147483647:=by unfold wrap32; omega
 go_enter Tryz.func70,Tryz.ntmps70
 go_wp2_with fail
 refine (signed_calls x _ hx).mono ?_
 rintro e w' ⟨rfl,rfl⟩
 generalize hy:wrap32 x = y at *
 go_wp2
 go_ret
 refine ⟨?_,rfl⟩
 first | rfl | (rw [hy]; rfl)
set_option maxRecDepth 100000 in
set_option maxHeartbeats 1000000 in
theorem plain_calls (x:Int) (w:World) (hx:-2147483648≤x∧x≤2147483647) :
 Calls Tryz.prog 260 #[.int .i32 x] w fun e w' => e = .returned (.int .i64 (x % 4294967296))∧w = w':=by
 go_enter Tryz.func260,Tryz.ntmps260
 go_wp2_with fail
 refine (mod_calls x 4294967296 _ (by omega) (by omega)).mono ?_
 rintro e w' ⟨rfl,rfl⟩
 go_wp2
 go_ret
 exact ⟨rfl,rfl⟩
def sqP (x:Int):Int:=wrap32 (x * x) % 4294967296
def refNorm (a b c:Int):Int:=wrap32 (sqP a + sqP b + sqP c)
def inside (lo hi a b c:Int):Bool:=decide (lo≤refNorm a b c % 4294967296) && decide (refNorm a b c % 4294967296≤hi)
def flagI (m:Wd) (f:Int):Int:=if m.v = 0 then f else 0
def flagsI (ga gm:Wd):Int:=flagI ga 2 + flagI gm 4
def lockB (a b c d:Wd):Bool:=(lockedW a b c d).v != 0
end Go.Proofs.YtjcgiddgafjdpaaGreatDoor
