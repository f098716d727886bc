/- Texts of this claim, side by side: Num2, Alu, Mill2, In32, Wd, Wdef, BitLaw, Ref01, Ref32, Ref32b, TopDef, NextDef, OfDef. -/
import Derived.Test.YtnkmmaijigihpaaGreatDoorTT1
import Derived.Test.YtnkmmaijigihpaaGreatDoorShelfB
set_option linter.unusedVariables false
set_option maxRecDepth 100000
set_option maxHeartbeats 8000000
namespace Go.Proofs.YtnkmmaijigihpaaGreatDoor
section
open Go.RowKit Go.Deep
def yD (a:Int):Int:=32 - (Lib.bitLen (a % 4294967296).toNat:Int)
def IG (a b:Int):Int:=wrap32 (a * b % 4294967296)
def FX (a b:Int):Int:=mP (a * b / 1073741824 + a * b / 536870912 % 2)
theorem YQ (a:Int) (w:World) (ha:-2147483648<=a/\a<=2147483647) :
 Calls Tryz.prog 285 #[.int .i32 a] w fun e w' => e = .returned (.int .i32 (yC a))/\ah w w' []:=by
 obtain ⟨n,hn⟩:∃ n,n = vP a:=⟨_,rfl⟩
 have e:yC a = max a n:=by unfold yC; rw [hn]
 rw [e];have HN:=hide hn;clear hn e;go_enter Tryz.func285,Tryz.ntmps285
 go_wp2_with fail
 refine (JQ a _ ha).mono ?_;rintro e w1 ⟨rfl,hc⟩;rw [<- HN.out];have HC:=hide hc;clear hc HN;go_wp2
 all_goals
  go_ret;exact ⟨by first | (rw [show max a n = if a < n then n else a by split <;> omega]; rfl) | (rw [show max a n = n by omega]; rfl) | (rw [show max a n = a by omega]; rfl),HC.out⟩
theorem abq (a:Int) (w:World) (ha:-2147483648<=a/\a<=2147483647) :
 Calls Tryz.prog 283 #[.int .i32 a] w fun e w' => e = .returned (.int .i32 (yD a))/\w = w':=by
 have l:=Any.bitLen_le32 (a % 4294967296) (by omega) (by omega);have hw:wrap32 (32 - (Lib.bitLen (a % 4294967296).toNat:Int)) = yD a:=by unfold yD wrap32; omega
 have HW:=hide hw;clear hw;go_enter Tryz.func283,Tryz.ntmps283
 go_wp2_with fail
 refine (Tryz.bits_LeadingZeros32 _ _ (by omega) (by omega)).mono ?_;rintro e w1 ⟨rfl,rfl⟩;clear l;generalize (32 - (Lib.bitLen (a % 4294967296).toNat:Int)) = n at *;go_wp2;go_ret;exact ⟨by rw [<- HW.out]; rfl,rfl⟩
theorem YR (a b:Int) (w:World) (ha:-2147483648<=a/\a<=2147483647) (hb:-2147483648<=b/\b<=2147483647) :
 Calls Tryz.prog 241 #[.int .i32 a,.int .i32 b] w fun e w' => e = .returned (.int .i32 (IG a b))/\ah w w' []:=by
 have e:IG a b = wrap32 (wrap64 (a * b) % 4294967296):=by
  unfold IG;generalize a * b = p;unfold wrap64; congr 1; omega
 rw [e];clear e;go_enter Tryz.func241,Tryz.ntmps241
 go_wp2;go_ret;exact ⟨rfl,(ah.refl w []).alloc _⟩
theorem Vl (x:Int):bits BinOp.and IntKind.i64 x 1 = x % 2:=by
 show IntKind.i64.wrap ((BitVec.ofInt 64 x &&& BitVec.ofInt 64 1).toNat:Int) = _;have h2:(BitVec.ofInt 64 1).toNat = 1:=by decide
 rw [BitVec.toNat_and,h2,Nat.and_one_is_mod,IntKind.wrap_i64,BitVec.toNat_ofInt];omega
theorem RH (w:World):Calls Tryz.prog 260 #[.int .i64 30] w fun e w' => e = .returned (.agg #[.func (.func 281) #[] #[.pointer (some ⟨w.heap.size,0,none⟩)]])/\ah w w' []/\w'.cell? ⟨w.heap.size,0,none⟩ = some (.int .i64 30)/\w.heap.size < w'.heap.size:=by
 have hc:=(aA.new w 3 [.int .i64 30])
 have hz:=aA.new (w.alloc (.cells #[.int .i64 30] 3)) 335 [(.func (.func 281) #[] #[.pointer (some ⟨w.heap.size,0,none⟩)])];have h1:=hc.alloc (.cells #[(.func (.func 281) #[] #[.pointer (some ⟨w.heap.size,0,none⟩)])] 335);have c1:=h1.cell' (i:=0) rfl;have c2:=hz.cell' (i:=0) rfl;rw [size_alloc] at c2;have HC:=hide (((ah.refl w []).alloc (.cells #[.int .i64 30] 3)).alloc (.cells #[(.func (.func 281) #[] #[.pointer (some ⟨w.heap.size,0,none⟩)])] 335));clear hc hz h1;go_enter Tryz.func260,Tryz.ntmps260
 go_wp2;refine bodyPost_ret (v:=.agg #[.func (.func 281) #[] #[.pointer (some ⟨w.heap.size,0,none⟩)]]) ?_ rfl ⟨rfl,HC.out,c1,by simp; omega⟩;simp [results,Tryz.f260,go_sem,c2]
theorem O6 (x:Int) (p:Addr) (w:World) (hp:w.cell? p = some (.int .i64 30)) (hx:-4611686018427387904<=x/\x<=4611686018427387904):Calls Tryz.prog 281 #[.int .i64 x,.pointer (some p)] w fun e w' => e = .returned (.int .i32 (mP (x / 1073741824 + x / 536870912 % 2)))/\w = w':=by
 have hb:=Vl (x / 536870912);have hw:wrap64 (x / 1073741824 + x / 536870912 % 2) = x / 1073741824 + x / 536870912 % 2:=by unfold wrap64; omega
 go_enter Tryz.func281,Tryz.ntmps281
 go_wp2;go_ret;exact ⟨by simp only [mP]; rfl,rfl⟩
theorem prod_bound {a b:Int} (ha:-2147483648<=a/\a<=2147483647) (hb:-2147483648<=b/\b<=2147483647):-4611686018427387904<=a * b/\a * b<=4611686018427387904:=by
 have h:(a * b).natAbs<=2147483648 * 2147483648:=by
  rw [Int.natAbs_mul]; exact Nat.mul_le_mul (by omega) (by omega)
 omega
theorem aez (a b:Int) (p:Addr) (w:World) (ha:-2147483648<=a/\a<=2147483647) (hb:-2147483648<=b/\b<=2147483647) (hp:w.cell? p = some (.int .i64 30)) :
 Calls Tryz.prog 258 #[.agg #[.func (.func 281) #[] #[.pointer (some p)]],.int .i32 a,.int .i32 b] w fun e w' => e = .returned (.int .i32 (FX a b))/\ah w w' []:=by
 have hpb:=prod_bound ha hb;have hm:wrap64 (a * b) = a * b:=by generalize a * b = p at *; unfold wrap64; omega
 have hp1:=fun o => ((ah.refl w []).alloc o).cell hp (by simp);go_enter Tryz.func258,Tryz.ntmps258
 go_wp2_with fail
 refine (O6 _ _ _ (hp1 _) hpb).mono ?_;rintro e w1 ⟨rfl,rfl⟩;go_wp2;go_ret;exact ⟨rfl,(ah.refl w []).alloc _⟩
theorem YS (a b:Int) (w:World) (ha:-2147483648<=a/\a<=2147483647) (hb:-2147483648<=b/\b<=2147483647) :
 Calls Tryz.prog 243 #[.int .i32 a,.int .i32 b] w fun e w' => e = .returned (.int .i32 (FX a b))/\ah w w' []:=by
 go_enter Tryz.func243,Tryz.ntmps243
 go_wp2_with fail
 refine (RH _).mono ?_;rintro e w1 ⟨rfl,hc,hp,_⟩;have HC:=hide hc;clear hc;go_wp2_with fail
 refine (aez a b _ _ ha hb hp).mono ?_;rintro e w2 ⟨rfl,hc⟩;have HC2:=hide hc;clear hc;go_wp2;go_ret;exact ⟨rfl,HC.out.trans HC2.out (by simp)⟩
def aeA (a b:Int):Int:=wrap32 (a + b)
def aeB (a b:Int):Int:=wrap32 (a - b)
def II (a b:Int):Int:=bits BinOp.and IntKind.i32 a b
def RI (a b:Int):Int:=bits BinOp.or IntKind.i32 a b
def aeC (a b:Int):Int:=bits BinOp.xor IntKind.i32 a b
def IJ (a b:Int):Int:=bits BinOp.andNot IntKind.i32 a b
abbrev aC (a:Int):Prop:=-2147483648<=a/\a<=2147483647
theorem aj3 (a b:Int) (w:World) (ha:aC a) (hb:aC b):Calls Tryz.prog 185 #[.int .i64 1,.int .i32 a,.int .i32 b] w fun e w' => e = .returned (.tuple #[.int .i32 (aeA a b),.bool true])/\ah w w' []:=by
 have HC:=hide (ah.refl w []);go_enter Tryz.func185,Tryz.ntmps185
 go_wp2;go_ret2;exact ⟨rfl,HC.out⟩
theorem aj6 (a b:Int) (w:World) (ha:aC a) (hb:aC b):Calls Tryz.prog 185 #[.int .i64 2,.int .i32 a,.int .i32 b] w fun e w' => e = .returned (.tuple #[.int .i32 (aeB a b),.bool true])/\ah w w' []:=by
 have HC:=hide (ah.refl w []);go_enter Tryz.func185,Tryz.ntmps185
 go_wp2;go_ret2;exact ⟨rfl,HC.out⟩
theorem ahR (a b:Int) (w:World) (ha:aC a) (hb:aC b):Calls Tryz.prog 185 #[.int .i64 3,.int .i32 a,.int .i32 b] w fun e w' => e = .returned (.tuple #[.int .i32 (FV a b),.bool true])/\ah w w' []:=by
 go_enter Tryz.func185,Tryz.ntmps185
 go_wp2_with fail
 refine (YO a b _ ha hb).mono ?_;rintro e w1 ⟨rfl,hc⟩;have HC:=hide hc;clear hc;go_wp2;go_ret2;exact ⟨rfl,HC.out⟩
theorem ahS (a b:Int) (w:World) (ha:aC a) (hb:aC b):Calls Tryz.prog 185 #[.int .i64 4,.int .i32 a,.int .i32 b] w fun e w' => e = .returned (.tuple #[.int .i32 (FW a b),.bool true])/\ah w w' []:=by
 go_enter Tryz.func185,Tryz.ntmps185
 go_wp2_with fail
 refine (YP a b _ ha hb).mono ?_;rintro e w1 ⟨rfl,hc⟩;have HC:=hide hc;clear hc;go_wp2;go_ret2;exact ⟨rfl,HC.out⟩
theorem aj7 (a b:Int) (w:World) (ha:aC a) (hb:aC b):Calls Tryz.prog 185 #[.int .i64 5,.int .i32 a,.int .i32 b] w fun e w' => e = .returned (.tuple #[.int .i32 (II a b),.bool true])/\ah w w' []:=by
 have HC:=hide (ah.refl w []);go_enter Tryz.func185,Tryz.ntmps185
 go_wp2;go_ret2;exact ⟨rfl,HC.out⟩
theorem anU (a b:Int) (w:World) (ha:aC a) (hb:aC b):Calls Tryz.prog 185 #[.int .i64 6,.int .i32 a,.int .i32 b] w fun e w' => e = .returned (.tuple #[.int .i32 (RI a b),.bool true])/\ah w w' []:=by
 have HC:=hide (ah.refl w []);go_enter Tryz.func185,Tryz.ntmps185
 go_wp2;go_ret2;exact ⟨rfl,HC.out⟩
theorem aj8 (a b:Int) (w:World) (ha:aC a) (hb:aC b):Calls Tryz.prog 185 #[.int .i64 7,.int .i32 a,.int .i32 b] w fun e w' => e = .returned (.tuple #[.int .i32 (aeC a b),.bool true])/\ah w w' []:=by
 have HC:=hide (ah.refl w []);go_enter Tryz.func185,Tryz.ntmps185
 go_wp2;go_ret2;exact ⟨rfl,HC.out⟩
theorem aj9 (a b:Int) (w:World) (ha:aC a) (hb:aC b):Calls Tryz.prog 185 #[.int .i64 8,.int .i32 a,.int .i32 b] w fun e w' => e = .returned (.tuple #[.int .i32 (IJ a b),.bool true])/\ah w w' []:=by
 have HC:=hide (ah.refl w []);go_enter Tryz.func185,Tryz.ntmps185
 go_wp2;go_ret2;exact ⟨rfl,HC.out⟩
theorem aj_ (a b:Int) (w:World) (ha:aC a) (hb:aC b):Calls Tryz.prog 185 #[.int .i64 9,.int .i32 a,.int .i32 b] w fun e w' => e = .returned (.tuple #[.int .i32 (yB a b),.bool true])/\ah w w' []:=by
 go_enter Tryz.func185,Tryz.ntmps185
 go_wp2_with fail
 refine (abn a b _).mono ?_;rintro e w1 ⟨rfl,hc⟩;have HC:=hide hc;clear hc;go_wp2;go_ret2;exact ⟨rfl,HC.out⟩
theorem akb (a b:Int) (w:World) (ha:aC a) (hb:aC b):Calls Tryz.prog 185 #[.int .i64 10,.int .i32 a,.int .i32 b] w fun e w' => e = .returned (.tuple #[.int .i32 (Ei a b),.bool true])/\ah w w' []:=by
 go_enter Tryz.func185,Tryz.ntmps185
 go_wp2_with fail
 refine (abo a b _).mono ?_;rintro e w1 ⟨rfl,hc⟩;have HC:=hide hc;clear hc;go_wp2;go_ret2;exact ⟨rfl,HC.out⟩
theorem akc (a b:Int) (w:World) (ha:aC a) (hb:aC b):Calls Tryz.prog 185 #[.int .i64 11,.int .i32 a,.int .i32 b] w fun e w' => e = .returned (.tuple #[.int .i32 (LX a b),.bool true])/\ah w w' []:=by
 go_enter Tryz.func185,Tryz.ntmps185
 go_wp2_with fail
 refine (abm a b _).mono ?_;rintro e w1 ⟨rfl,hc⟩;have HC:=hide hc;clear hc;go_wp2;go_ret2;exact ⟨rfl,HC.out⟩
theorem akd (a b:Int) (w:World) (ha:aC a) (hb:aC b):Calls Tryz.prog 185 #[.int .i64 13,.int .i32 a,.int .i32 b] w fun e w' => e = .returned (.tuple #[.int .i32 (AZ a b),.bool true])/\ah w w' []:=by
 have HC:=hide (ah.refl w []);go_enter Tryz.func185,Tryz.ntmps185
 go_wp2_with fail
 refine (YK a b _).mono ?_;rintro e w1 ⟨rfl,rfl⟩;go_wp2;go_ret2;exact ⟨rfl,HC.out⟩
theorem ahT (a b:Int) (w:World) (ha:aC a) (hb:aC b):Calls Tryz.prog 185 #[.int .i64 14,.int .i32 a,.int .i32 b] w fun e w' => e = .returned (.tuple #[.int .i32 (uf a b),.bool true])/\ah w w' []:=by
 have HC:=hide (ah.refl w []);go_enter Tryz.func185,Tryz.ntmps185
 go_wp2_with fail
 refine (Vk a b _).mono ?_;rintro e w1 ⟨rfl,rfl⟩;go_wp2;go_ret2;exact ⟨rfl,HC.out⟩
theorem ake (a b:Int) (w:World) (ha:aC a) (hb:aC b):Calls Tryz.prog 185 #[.int .i64 15,.int .i32 a,.int .i32 b] w fun e w' => e = .returned (.tuple #[.int .i32 (A8 a b),.bool true])/\ah w w' []:=by
 have HC:=hide (ah.refl w []);go_enter Tryz.func185,Tryz.ntmps185
 go_wp2_with fail
 refine (YL a b _).mono ?_;rintro e w1 ⟨rfl,rfl⟩;go_wp2;go_ret2;exact ⟨rfl,HC.out⟩
theorem Vm (a b:Int) (w:World) (ha:aC a) (hb:aC b):Calls Tryz.prog 215 #[.int .i64 18,.int .i32 a,.int .i32 b] w fun e w' => e = .returned (.tuple #[.int .i32 (IG a b),.bool true])/\ah w w' []:=by
 go_enter Tryz.func215,Tryz.ntmps215
 go_wp2_with fail
 refine (YR a b _ ha hb).mono ?_;rintro e w1 ⟨rfl,hc⟩;have HC:=hide hc;clear hc;go_wp2;go_ret2;exact ⟨rfl,HC.out⟩
theorem akf (a b:Int) (w:World) (ha:aC a) (hb:aC b):Calls Tryz.prog 185 #[.int .i64 18,.int .i32 a,.int .i32 b] w fun e w' => e = .returned (.tuple #[.int .i32 (IG a b),.bool true])/\ah w w' []:=by
 go_enter Tryz.func185,Tryz.ntmps185
 go_wp2_with fail
 refine (Vm a b _ ha hb).mono ?_;rintro e w1 ⟨rfl,hc⟩;have HC:=hide hc;clear hc;go_wp2;go_ret2;exact ⟨rfl,HC.out⟩
theorem RJ (a b:Int) (w:World) (ha:aC a) (hb:aC b):Calls Tryz.prog 215 #[.int .i64 20,.int .i32 a,.int .i32 b] w fun e w' => e = .returned (.tuple #[.int .i32 (FX a b),.bool true])/\ah w w' []:=by
 go_enter Tryz.func215,Tryz.ntmps215
 go_wp2_with fail
 refine (YS a b _ ha hb).mono ?_;rintro e w1 ⟨rfl,hc⟩;have HC:=hide hc;clear hc;go_wp2;go_ret2;exact ⟨rfl,HC.out⟩
theorem ahU (a b:Int) (w:World) (ha:aC a) (hb:aC b):Calls Tryz.prog 185 #[.int .i64 20,.int .i32 a,.int .i32 b] w fun e w' => e = .returned (.tuple #[.int .i32 (FX a b),.bool true])/\ah w w' []:=by
 go_enter Tryz.func185,Tryz.ntmps185
 go_wp2_with fail
 refine (RJ a b _ ha hb).mono ?_;rintro e w1 ⟨rfl,hc⟩;have HC:=hide hc;clear hc;go_wp2;go_ret2;exact ⟨rfl,HC.out⟩
theorem YT (a:Int) (w:World) (ha:aC a):Calls Tryz.prog 262 #[.int .i32 a] w fun e w' => e = .returned (.int .i32 (yD a))/\ah w w' []:=by
 have HC:=hide (ah.refl w []);go_enter Tryz.func262,Tryz.ntmps262
 go_wp2_with fail
 refine (abq a _ ha).mono ?_;rintro e w1 ⟨rfl,rfl⟩;go_wp2;go_ret;exact ⟨rfl,HC.out⟩
theorem abr (a:Int) (w:World) (ha:aC a):Calls Tryz.prog 261 #[.func (.func 262) #[] #[],.int .i32 a] w fun e w' => e = .returned (.tuple #[.int .i32 (yD a),.bool true])/\ah w w' []:=by
 go_enter Tryz.func261,Tryz.ntmps261
 go_wp2_with fail
 refine (YT a _ ha).mono ?_;rintro e w1 ⟨rfl,hc⟩;have HC:=hide hc;clear hc;go_wp2;go_ret2;exact ⟨rfl,HC.out⟩
theorem abt (a:Int) (w:World) (ha:aC a):Calls Tryz.prog 245 #[.int .i64 24,.int .i32 a] w fun e w' => e = .returned (.tuple #[.int .i32 (yD a),.bool true])/\ah w w' []:=by
 go_enter Tryz.func245,Tryz.ntmps245
 go_wp2_with fail
 refine (abr a _ ha).mono ?_;rintro e w1 ⟨rfl,hc⟩;have HC:=hide hc;clear hc;go_wp2;go_ret2;exact ⟨rfl,HC.out⟩
theorem Vo (a b:Int) (w:World) (ha:aC a) (hb:aC b):Calls Tryz.prog 215 #[.int .i64 24,.int .i32 a,.int .i32 b] w fun e w' => e = .returned (.tuple #[.int .i32 (yD a),.bool true])/\ah w w' []:=by
 go_enter Tryz.func215,Tryz.ntmps215
 go_wp2_with fail
 refine (abt a _ ha).mono ?_;rintro e w1 ⟨rfl,hc⟩;have HC:=hide hc;clear hc;go_wp2;go_ret2;exact ⟨rfl,HC.out⟩
theorem akg (a b:Int) (w:World) (ha:aC a) (hb:aC b):Calls Tryz.prog 185 #[.int .i64 24,.int .i32 a,.int .i32 b] w fun e w' => e = .returned (.tuple #[.int .i32 (yD a),.bool true])/\ah w w' []:=by
 go_enter Tryz.func185,Tryz.ntmps185
 go_wp2_with fail
 refine (Vo a b _ ha hb).mono ?_;rintro e w1 ⟨rfl,hc⟩;have HC:=hide hc;clear hc;go_wp2;go_ret2;exact ⟨rfl,HC.out⟩
theorem YU (a:Int) (w:World) (ha:aC a):Calls Tryz.prog 263 #[.int .i32 a] w fun e w' => e = .returned (.int .i32 (vP a))/\ah w w' []:=by
 go_enter Tryz.func263,Tryz.ntmps263
 go_wp2_with fail
 refine (JQ a _ ha).mono ?_;rintro e w1 ⟨rfl,hc⟩;have HC:=hide hc;clear hc;go_wp2;go_ret;exact ⟨rfl,HC.out⟩
theorem abu (a:Int) (w:World) (ha:aC a):Calls Tryz.prog 261 #[.func (.func 263) #[] #[],.int .i32 a] w fun e w' => e = .returned (.tuple #[.int .i32 (vP a),.bool true])/\ah w w' []:=by
 go_enter Tryz.func261,Tryz.ntmps261
 go_wp2_with fail
 refine (YU a _ ha).mono ?_;rintro e w1 ⟨rfl,hc⟩;have HC:=hide hc;clear hc;go_wp2;go_ret2;exact ⟨rfl,HC.out⟩
theorem abv (a:Int) (w:World) (ha:aC a):Calls Tryz.prog 245 #[.int .i64 25,.int .i32 a] w fun e w' => e = .returned (.tuple #[.int .i32 (vP a),.bool true])/\ah w w' []:=by
 go_enter Tryz.func245,Tryz.ntmps245
 go_wp2_with fail
 refine (abu a _ ha).mono ?_;rintro e w1 ⟨rfl,hc⟩;have HC:=hide hc;clear hc;go_wp2;go_ret2;exact ⟨rfl,HC.out⟩
theorem Vp (a b:Int) (w:World) (ha:aC a) (hb:aC b):Calls Tryz.prog 215 #[.int .i64 25,.int .i32 a,.int .i32 b] w fun e w' => e = .returned (.tuple #[.int .i32 (vP a),.bool true])/\ah w w' []:=by
 go_enter Tryz.func215,Tryz.ntmps215
 go_wp2_with fail
 refine (abv a _ ha).mono ?_;rintro e w1 ⟨rfl,hc⟩;have HC:=hide hc;clear hc;go_wp2;go_ret2;exact ⟨rfl,HC.out⟩
theorem akh (a b:Int) (w:World) (ha:aC a) (hb:aC b):Calls Tryz.prog 185 #[.int .i64 25,.int .i32 a,.int .i32 b] w fun e w' => e = .returned (.tuple #[.int .i32 (vP a),.bool true])/\ah w w' []:=by
 go_enter Tryz.func185,Tryz.ntmps185
 go_wp2_with fail
 refine (Vp a b _ ha hb).mono ?_;rintro e w1 ⟨rfl,hc⟩;have HC:=hide hc;clear hc;go_wp2;go_ret2;exact ⟨rfl,HC.out⟩
theorem YV (a:Int) (w:World) (ha:aC a):Calls Tryz.prog 264 #[.int .i32 a] w fun e w' => e = .returned (.int .i32 (yC a))/\ah w w' []:=by
 go_enter Tryz.func264,Tryz.ntmps264
 go_wp2_with fail
 refine (YQ a _ ha).mono ?_;rintro e w1 ⟨rfl,hc⟩;have HC:=hide hc;clear hc;go_wp2;go_ret;exact ⟨rfl,HC.out⟩
theorem abw (a:Int) (w:World) (ha:aC a):Calls Tryz.prog 261 #[.func (.func 264) #[] #[],.int .i32 a] w fun e w' => e = .returned (.tuple #[.int .i32 (yC a),.bool true])/\ah w w' []:=by
 go_enter Tryz.func261,Tryz.ntmps261
 go_wp2_with fail
 refine (YV a _ ha).mono ?_;rintro e w1 ⟨rfl,hc⟩;have HC:=hide hc;clear hc;go_wp2;go_ret2;exact ⟨rfl,HC.out⟩
theorem abx (a:Int) (w:World) (ha:aC a):Calls Tryz.prog 245 #[.int .i64 26,.int .i32 a] w fun e w' => e = .returned (.tuple #[.int .i32 (yC a),.bool true])/\ah w w' []:=by
 go_enter Tryz.func245,Tryz.ntmps245
 go_wp2_with fail
 refine (abw a _ ha).mono ?_;rintro e w1 ⟨rfl,hc⟩;have HC:=hide hc;clear hc;go_wp2;go_ret2;exact ⟨rfl,HC.out⟩
theorem Vq (a b:Int) (w:World) (ha:aC a) (hb:aC b):Calls Tryz.prog 215 #[.int .i64 26,.int .i32 a,.int .i32 b] w fun e w' => e = .returned (.tuple #[.int .i32 (yC a),.bool true])/\ah w w' []:=by
 go_enter Tryz.func215,Tryz.ntmps215
 go_wp2_with fail
 refine (abx a _ ha).mono ?_;rintro e w1 ⟨rfl,hc⟩;have HC:=hide hc;clear hc;go_wp2;go_ret2;exact ⟨rfl,HC.out⟩
theorem aki (a b:Int) (w:World) (ha:aC a) (hb:aC b):Calls Tryz.prog 185 #[.int .i64 26,.int .i32 a,.int .i32 b] w fun e w' => e = .returned (.tuple #[.int .i32 (yC a),.bool true])/\ah w w' []:=by
 go_enter Tryz.func185,Tryz.ntmps185
 go_wp2_with fail
 refine (Vq a b _ ha hb).mono ?_;rintro e w1 ⟨rfl,hc⟩;have HC:=hide hc;clear hc;go_wp2;go_ret2;exact ⟨rfl,HC.out⟩
theorem Vr (a:Int) (w:World) (ha:aC a):Calls Tryz.prog 266 #[.int .i32 a] w fun e w' => e = .returned (.int .i32 (wY a))/\ah w w' []:=by
 have HC:=hide (ah.refl w []);go_enter Tryz.func266,Tryz.ntmps266
 go_wp2_with fail
 refine (YM a _).mono ?_;rintro e w1 ⟨rfl,rfl⟩;go_wp2;go_ret;exact ⟨rfl,HC.out⟩
theorem YW (a:Int) (w:World) (ha:aC a):Calls Tryz.prog 261 #[.func (.func 266) #[] #[],.int .i32 a] w fun e w' => e = .returned (.tuple #[.int .i32 (wY a),.bool true])/\ah w w' []:=by
 go_enter Tryz.func261,Tryz.ntmps261
 go_wp2_with fail
 refine (Vr a _ ha).mono ?_;rintro e w1 ⟨rfl,hc⟩;have HC:=hide hc;clear hc;go_wp2;go_ret2;exact ⟨rfl,HC.out⟩
theorem YX (a:Int) (w:World) (ha:aC a):Calls Tryz.prog 245 #[.int .i64 28,.int .i32 a] w fun e w' => e = .returned (.tuple #[.int .i32 (wY a),.bool true])/\ah w w' []:=by
 go_enter Tryz.func245,Tryz.ntmps245
 go_wp2_with fail
 refine (YW a _ ha).mono ?_;rintro e w1 ⟨rfl,hc⟩;have HC:=hide hc;clear hc;go_wp2;go_ret2;exact ⟨rfl,HC.out⟩
theorem RN (a b:Int) (w:World) (ha:aC a) (hb:aC b):Calls Tryz.prog 215 #[.int .i64 28,.int .i32 a,.int .i32 b] w fun e w' => e = .returned (.tuple #[.int .i32 (wY a),.bool true])/\ah w w' []:=by
 go_enter Tryz.func215,Tryz.ntmps215
 go_wp2_with fail
 refine (YX a _ ha).mono ?_;rintro e w1 ⟨rfl,hc⟩;have HC:=hide hc;clear hc;go_wp2;go_ret2;exact ⟨rfl,HC.out⟩
theorem ahV (a b:Int) (w:World) (ha:aC a) (hb:aC b):Calls Tryz.prog 185 #[.int .i64 28,.int .i32 a,.int .i32 b] w fun e w' => e = .returned (.tuple #[.int .i32 (wY a),.bool true])/\ah w w' []:=by
 go_enter Tryz.func185,Tryz.ntmps185
 go_wp2_with fail
 refine (RN a b _ ha hb).mono ?_;rintro e w1 ⟨rfl,hc⟩;have HC:=hide hc;clear hc;go_wp2;go_ret2;exact ⟨rfl,HC.out⟩
def YZ (a b:Int):Int:=min a b
def Y0 (a b:Int):Int:=max a b
theorem akj (a b:Int) (w:World) (ha:aC a) (hb:aC b):Calls Tryz.prog 185 #[.int .i64 16,.int .i32 a,.int .i32 b] w fun e w' => e = .returned (.tuple #[.int .i32 (YZ a b),.bool true])/\ah w w' []:=by
 have HC:=hide (ah.refl w []);go_enter Tryz.func185,Tryz.ntmps185
 go_wp2;go_ret2;exact ⟨rfl,HC.out⟩
theorem akk (a b:Int) (w:World) (ha:aC a) (hb:aC b):Calls Tryz.prog 185 #[.int .i64 17,.int .i32 a,.int .i32 b] w fun e w' => e = .returned (.tuple #[.int .i32 (Y0 a b),.bool true])/\ah w w' []:=by
 have HC:=hide (ah.refl w []);go_enter Tryz.func185,Tryz.ntmps185
 go_wp2;go_ret2;exact ⟨rfl,HC.out⟩
theorem nH (n:Int):aC (wrap32 n):=by unfold aC wrap32; omega
theorem JR (n:Int):aC (mP n):=by unfold aC mP; omega
theorem akl (a b:Int):aC (aeA a b):=nH _
theorem akm (a b:Int):aC (aeB a b):=nH _
theorem ahW (a b:Int):aC (FV a b):=JR _
theorem ahX (a b:Int):aC (FW a b):=JR _
theorem zu (n:Int):IntKind.i32.wrap n = wrap32 n:=by rw [IntKind.wrap_i32]; unfold wrap32; rfl
theorem akn (a b:Int):aC (II a b):=by
 show aC (IntKind.i32.wrap _); rw [zu]; exact nH _
theorem anV (a b:Int):aC (RI a b):=by
 show aC (IntKind.i32.wrap _); rw [zu]; exact nH _
theorem ako (a b:Int):aC (aeC a b):=by
 show aC (IntKind.i32.wrap _); rw [zu]; exact nH _
theorem akp (a b:Int):aC (IJ a b):=by
 show aC (IntKind.i32.wrap _); rw [zu]; exact nH _
theorem aby (a b:Int):aC (yB a b):=nH _
theorem akq (a b:Int):aC (Ei a b):=nH _
theorem abz (a b:Int) (h:aC a):aC (LX a b):=by
 unfold aC LX at *
 have h2:(1:Int)<=2 ^ sh b:=by
  have:=Nat.one_le_two_pow (n:=sh b)
  exact_mod_cast this
 generalize (2:Int) ^ sh b = d at *;constructor
 . rw [Int.le_ediv_iff_mul_le (by omega)]
   have:(2147483648:Int) * 1<=2147483648 * d:=Int.mul_le_mul_of_nonneg_left h2 (by omega);omega
 . exact Int.ediv_le_of_le_mul (by omega) (by
    have:(2147483647:Int) * 1<=2147483647 * d:=Int.mul_le_mul_of_nonneg_left h2 (by omega)
    omega)
theorem in_lt (a b:Int):aC (AZ a b):=by unfold aC AZ; split <;> omega
theorem akr (a b:Int):aC (uf a b):=by unfold aC uf; split <;> omega
theorem anW (a b:Int):aC (A8 a b):=by unfold aC A8; split <;> omega
theorem aks (a b:Int):aC (IG a b):=nH _
theorem ahY (a b:Int):aC (FX a b):=JR _
theorem abA (a:Int):aC (vP a):=JR _
theorem akt (a:Int) (h:aC a):aC (yC a):=by have:=abA a; unfold aC yC at *; omega
theorem ahZ (a:Int) (h:aC a):aC (wY a):=by unfold aC wY at *; omega
theorem aku (a:Int):aC (yD a):=by
 have:=Any.bitLen_le32 (a % 4294967296) (by omega) (by omega);unfold aC yD; omega
theorem akv (a b:Int) (ha:aC a) (hb:aC b):aC (YZ a b):=by unfold aC YZ at *; omega
theorem akw (a b:Int) (ha:aC a) (hb:aC b):aC (Y0 a b):=by unfold aC Y0 at *; omega
structure Wd where
 v:Int
 ok:aC v
theorem Wd.fE {a b:Wd} (h:a.v = b.v):a = b:=by cases a; cases b; cases h; rfl
def kW (n:Int):Wd:=⟨wrap32 n,nH n⟩
theorem Es {n:Int} (h:aC n):(kW n).v = n:=by show wrap32 n = n; unfold aC at h; unfold wrap32; omega
def CX (a b:Wd):Wd:=⟨aeA a.v b.v,akl _ _⟩
def z_ (a b:Wd):Wd:=⟨aeB a.v b.v,akm _ _⟩
def jI (a b:Wd):Wd:=⟨FV a.v b.v,ahW _ _⟩
def zx (a b:Wd):Wd:=⟨FW a.v b.v,ahX _ _⟩
def gZ (a b:Wd):Wd:=⟨II a.v b.v,akn _ _⟩
def G_ (a b:Wd):Wd:=⟨RI a.v b.v,anV _ _⟩
def IV (a b:Wd):Wd:=⟨aeC a.v b.v,ako _ _⟩
def SL (a b:Wd):Wd:=⟨IJ a.v b.v,akp _ _⟩
def Et (a b:Wd):Wd:=⟨yB a.v b.v,aby _ _⟩
def Eu (a b:Wd):Wd:=⟨Ei a.v b.v,akq _ _⟩
def Zg (a b:Wd):Wd:=⟨LX a.v b.v,abz _ _ a.ok⟩
def Mc (a b:Wd):Wd:=⟨AZ a.v b.v,in_lt _ _⟩
def F9 (a b:Wd):Wd:=⟨uf a.v b.v,akr _ _⟩
def SN (a b:Wd):Wd:=⟨IG a.v b.v,aks _ _⟩
def aU (a b:Wd):Wd:=⟨FX a.v b.v,ahY _ _⟩
def Md (a b:Wd):Wd:=⟨YZ a.v b.v,akv _ _ a.ok b.ok⟩
def Me (a b:Wd):Wd:=⟨Y0 a.v b.v,akw _ _ a.ok b.ok⟩
def MB (a:Wd):Wd:=⟨yD a.v,aku _⟩
def uh (a:Wd):Wd:=⟨vP a.v,abA _⟩
def qE (a:Wd):Wd:=⟨yC a.v,akt _ a.ok⟩
def zy (a:Wd):Wd:=⟨wY a.v,ahZ _ a.ok⟩
def Ew (m a b:Wd):Wd:=G_ (gZ a m) (SL b m)
def PZ (x m:Wd):Wd:=z_ (IV x m) m
def A_ (a:Wd) (n:Int):Wd:=⟨yB a.v n,aby _ _⟩
def pI (a:Wd) (n:Int):Wd:=⟨LX a.v n,abz _ _ a.ok⟩
def qR (a b c:Wd):Wd:=CX (CX (SN a a) (SN b b)) (SN c c)
def Gm (n low high:Wd):Wd:=z_ (G_ (F9 n low) (F9 high n)) (kW 1)
def kN (x z h:Wd):Wd:=Et (aU x z) h
def iZ (x:Wd) (l:List Wd):Wd:=l.foldl zx x
def nZ (x:Wd) (l:List Wd):Wd:=l.foldl jI x
def kC (x:Wd) (l:List Wd):Wd:=l.foldl (fun s y => jI s (aU y y)) (aU x x)
structure Tm where
 a:Nat
 b:Nat
 less:Bool
def pick (l:List Wd) (k:Nat):Wd:=l.getD k (kW 0)
def term (ps qs:List Wd) (t:Tm):Wd:=aU (pick ps t.a) (pick qs t.b)
def aqf (ps qs:List Wd) (s:Wd) (t:Tm):Wd:=bif t.less then zx s (term ps qs t) else jI s (term ps qs t)
def aqg (ps qs:List Wd) (t:Tm):Wd:=bif t.less then zx (kW 0) (term ps qs t) else term ps qs t
def vF (ps qs:List Wd) (t:Tm) (l:List Tm):Wd:=l.foldl (aqf ps qs) (aqg ps qs t)
structure Q4 where
 a:Wd
 b:Wd
 c:Wd
 d:Wd
def alA (a b c d e f g h:Wd):Q4:=⟨vF [a,b,c,d] [e,f,g,h] ⟨0,0,false⟩ [⟨1,1,true⟩,⟨2,2,true⟩,⟨3,3,true⟩],vF [a,b,c,d] [e,f,g,h] ⟨0,1,false⟩ [⟨1,0,false⟩,⟨2,3,false⟩,⟨3,2,true⟩],vF [a,b,c,d] [e,f,g,h] ⟨0,2,false⟩ [⟨1,3,true⟩,⟨2,0,false⟩,⟨3,1,false⟩],vF [a,b,c,d] [e,f,g,h] ⟨0,3,false⟩ [⟨1,2,false⟩,⟨2,1,true⟩,⟨3,0,false⟩]⟩
def J7 (a b c d e f g:Wd):Q4:=⟨vF [a,b,c,d] [e,f,g] ⟨1,0,true⟩ [⟨2,1,true⟩,⟨3,2,true⟩],vF [a,b,c,d] [e,f,g] ⟨0,0,false⟩ [⟨2,2,false⟩,⟨3,1,true⟩],vF [a,b,c,d] [e,f,g] ⟨0,1,false⟩ [⟨1,2,true⟩,⟨3,0,false⟩],vF [a,b,c,d] [e,f,g] ⟨0,2,false⟩ [⟨1,1,false⟩,⟨2,0,true⟩]⟩
def alB (q0 q1 q2 q3 a0:Wd):Wd:=iZ (aU q1 q3) [aU q0 q2,pI a0 1]
def alC (q0 q1 q2 q3 a1:Wd):Wd:=iZ (nZ (aU q0 q1) [aU q2 q3]) [pI a1 1]
def alD (q1 q2 a2:Wd):Wd:=iZ (kW 536870912) [aU q1 q1,aU q2 q2,pI a2 1]
def alE (q0 q1 q2 q3 f0 f1 f2:Wd):Q4 :=
 ⟨pI (iZ (aU q1 f1) [aU q2 f0]) 1,iZ (pI (nZ (aU q3 f0) [aU q0 f1]) 1) [aU q1 f2],iZ (pI (iZ (aU q3 f1) [aU q0 f0]) 1) [aU q2 f2],pI (nZ (aU q1 f0) [aU q2 f1]) 1⟩
def an_ (q0 q1 q2 q3 a0 a1 a2:Wd):Q4:=alE q0 q1 q2 q3 (alB q0 q1 q2 q3 a0) (alC q0 q1 q2 q3 a1) (alD q1 q2 a2)
structure T3 where
 a:Wd
 b:Wd
 c:Wd
def aiw (q0 q1 q2 q3 bx bz f0 f1 f2:Wd):T3 :=
 ⟨iZ (nZ (aU bx (iZ (kW 536870912) [aU q2 q2,aU q3 q3])) [aU bz (iZ (aU q1 q3) [aU q0 q2])]) [pI f0 1],
  iZ (nZ (aU bx (iZ (aU q1 q2) [aU q0 q3])) [aU bz (nZ (aU q0 q1) [aU q2 q3])]) [pI f1 1],
  iZ (nZ (aU bx (nZ (aU q0 q2) [aU q1 q3])) [aU bz (iZ (kW 536870912) [aU q1 q1,aU q2 q2])]) [pI f2 1]⟩
def ae6 (u y:Wd):Wd:=jI y (pI (aU y (zx (kW 1073741824) (A_ (aU u (aU y y)) 2))) 1)
def agY (x:Wd):Wd:=gZ (MB x) (kW 30)
def aoa (x:Wd):Wd:=Eu (Et x (agY x)) (kW 2)
def alF (u:Wd):Wd:=zx (kW 1184766729) (aU (kW 715827883) u)
def agZ (u:Wd):Nat->Wd
 | 0 => alF u
 | k + 1 => ae6 u (agZ u k)
def iy (x:Wd):Wd × Wd:=(agZ (aoa x) 4,Eu (agY x) (kW 1))
def ag0 (x:Wd):Wd:=kN x (iy x).1 (iy x).2
def Bf (x0 x1 x2:Wd):T3:=⟨kN (A_ x0 15) (iy (qR x0 x1 x2)).1 (iy (qR x0 x1 x2)).2,kN (A_ x1 15) (iy (qR x0 x1 x2)).1 (iy (qR x0 x1 x2)).2,kN (A_ x2 15) (iy (qR x0 x1 x2)).1 (iy (qR x0 x1 x2)).2⟩
def aob (x0 x1 x2 x3:Wd):Q4:=⟨kN x0 (iy (jI (kC x0 [x1,x2,x3]) (kW 1024))).1 (iy (jI (kC x0 [x1,x2,x3]) (kW 1024))).2,kN x1 (iy (jI (kC x0 [x1,x2,x3]) (kW 1024))).1 (iy (jI (kC x0 [x1,x2,x3]) (kW 1024))).2,kN x2 (iy (jI (kC x0 [x1,x2,x3]) (kW 1024))).1 (iy (jI (kC x0 [x1,x2,x3]) (kW 1024))).2,kN x3 (iy (jI (kC x0 [x1,x2,x3]) (kW 1024))).1 (iy (jI (kC x0 [x1,x2,x3]) (kW 1024))).2⟩
def sumW (a b c e0 e1 e2:Wd):Wd:=pI (nZ (aU a e0) [aU b e1,aU c e2]) 1
def TJ (q0 q1 q2 q3 f0 f1 f2:Wd):Q4:=alA (J7 q0 q1 q2 q3 f0 f1 f2).a (J7 q0 q1 q2 q3 f0 f1 f2).b (J7 q0 q1 q2 q3 f0 f1 f2).c (J7 q0 q1 q2 q3 f0 f1 f2).d q0 (uh q1) (uh q2) (uh q3)
def ED (q0 q1 q2 q3 f0 f1 f2:Wd):Wd:=ag0 (kC (TJ q0 q1 q2 q3 f0 f1 f2).b [(TJ q0 q1 q2 q3 f0 f1 f2).c])
def EF (q0 q1 q2 q3 f0 f1 f2:Wd):Wd:=(TJ q0 q1 q2 q3 f0 f1 f2).d
def alG (q0 q1 q2 q3 f0 f1 f2:Wd):T3:=aiw q0 q1 q2 q3 (ED q0 q1 q2 q3 f0 f1 f2) (EF q0 q1 q2 q3 f0 f1 f2) f0 f1 f2
def alI (q0 q1 q2 q3 f0 f1 f2:Wd):Q4:=⟨aU (ED q0 q1 q2 q3 f0 f1 f2) q0,aU (ED q0 q1 q2 q3 f0 f1 f2) q1,aU (ED q0 q1 q2 q3 f0 f1 f2) q2,aU (ED q0 q1 q2 q3 f0 f1 f2) q3⟩
def alJ (q0 q1 q2 q3 f0 f1 f2:Wd):Q4:=⟨aU (EF q0 q1 q2 q3 f0 f1 f2) q0,aU (EF q0 q1 q2 q3 f0 f1 f2) q1,aU (EF q0 q1 q2 q3 f0 f1 f2) q2,aU (EF q0 q1 q2 q3 f0 f1 f2) q3⟩
def qK (x y:Q4) (e:T3):Q4 :=
 ⟨sumW (uh y.c) (iZ y.b [x.d]) x.c e.a e.b e.c,
  sumW y.d (nZ x.c [y.a]) (iZ x.d [y.b,y.b]) e.a e.b e.c,
  sumW (uh (nZ x.c [x.c,y.a])) (nZ x.b [y.d]) (iZ x.a [y.c,y.c]) e.a e.b e.c,
  sumW (iZ y.b [x.d,x.d]) (iZ y.c [x.a]) x.b e.a e.b e.c⟩
def alK (q0 q1 q2 q3 f0 f1 f2:Wd):Q4:=qK (alI q0 q1 q2 q3 f0 f1 f2) (alJ q0 q1 q2 q3 f0 f1 f2) (alG q0 q1 q2 q3 f0 f1 f2)
def alL:List Wd:=[kW 421657428,kW 248918915,kW 131521918,kW 66762579,kW 33510843,kW 16771758,kW 8387925,kW 4194219,kW 2097141,kW 1048575,kW 524288,kW 262144,kW 131072,kW 65536,kW 32768,kW 16384,kW 8192,kW 4096,kW 2048,kW 1024,kW 512,kW 256,kW 128,kW 64,kW 32,kW 16,kW 8,kW 4]
def acf (v s:Wd):Wd:=Eu (Et v s) (kW 2)
def ae7 (i:Nat) (x y c:Wd):T3:=⟨CX x (PZ (Zg y (kW i)) (zy y)),z_ y (PZ (Zg x (kW i)) (zy y)),CX c (PZ (alL.getD i (kW 0)) (zy y))⟩
def P8 (x y:Wd):Nat->T3
 | 0 => ⟨x,y,kW 0⟩
 | i + 1 => ae7 i (P8 x y i).a (P8 x y i).b (P8 x y i).c
def alM (y x:Wd):T3:=P8 (acf (Me (qE x) (qE y)) (z_ (MB (Me (qE x) (qE y))) (kW 1))) (acf (Md (qE x) (qE y)) (z_ (MB (Me (qE x) (qE y))) (kW 1))) 28
def ae8 (y x c:Wd):Wd:=Ew (uh (Mc (qE x) (qE y))) (z_ (kW 843314857) c) c
def ae9 (x b:Wd):Wd:=Ew (zy x) (z_ (kW 1686629713) b) b
def alN (y x:Wd):Wd:=ae8 y x (alM y x).c
def alO (y x:Wd):Wd:=ae9 x (alN y x)
def TK (y x:Wd):Wd:=PZ (alO y x) (zy y)
def W9 (q0 q1 q2 q3:Wd):Wd:=nZ (aU q0 q1) [aU q2 q3]
def W_ (q0 q1 q2 q3:Wd):Wd:=iZ (kW 536870912) [aU q1 q1,aU q2 q2]
def MG (q0 q1 q2 q3:Wd):Wd:=iZ (aU q0 q2) [aU q3 q1]
def aix (q0 q1 q2 q3:Wd):Wd:=nZ (aU q0 q3) [aU q1 q2]
def aiy (q0 q1 q2 q3:Wd):Wd:=iZ (kW 536870912) [aU q2 q2,aU q3 q3]
def aiz (q0 q1 q2 q3:Wd):Wd:=ag0 (kC (W_ q0 q1 q2 q3) [W9 q0 q1 q2 q3])
def eY (q0 q1 q2 q3:Wd):T3:=⟨TK (W9 q0 q1 q2 q3) (W_ q0 q1 q2 q3),TK (MG q0 q1 q2 q3) (aiz q0 q1 q2 q3),TK (aix q0 q1 q2 q3) (aiy q0 q1 q2 q3)⟩
def jO (q0 q1 q2 q3:Wd):Wd:=z_ (Mc (qE (MG q0 q1 q2 q3)) (kW 536000000)) (kW 1)
def aoc (x0 x1 x2 x3:Wd):Q4:=⟨kN x0 (iy (kC x0 [x1,x2,x3])).1 (iy (kC x0 [x1,x2,x3])).2,kN x1 (iy (kC x0 [x1,x2,x3])).1 (iy (kC x0 [x1,x2,x3])).2,kN x2 (iy (kC x0 [x1,x2,x3])).1 (iy (kC x0 [x1,x2,x3])).2,kN x3 (iy (kC x0 [x1,x2,x3])).1 (iy (kC x0 [x1,x2,x3])).2⟩
def aod (x:Wd):Wd:=Md (Me x (kW (-134217728))) (kW 134217728)
def P9 (q r b ga:Wd):Wd:=jI q (aod (zx r (gZ (pI b 8) ga)))
def xE (a0 a1 a2:Wd):Wd:=Gm (qR a0 a1 a2) (kW 16777216) (kW 150994944)
def xG (m0 m1 m2:Wd):Wd:=Gm (qR m0 m1 m2) (kW 1000000) (kW 400000000)
def aiA (q0 q1 q2 q3 a0 a1 a2:Wd):Q4:=an_ q0 q1 q2 q3 (Bf a0 a1 a2).a (Bf a0 a1 a2).b (Bf a0 a1 a2).c
def aiB (q0 q1 q2 q3 m0 m1 m2:Wd):Q4:=alK q0 q1 q2 q3 (Bf m0 m1 m2).a (Bf m0 m1 m2).b (Bf m0 m1 m2).c
def alP (P N:Q4) (gm:Wd):Q4:=⟨jI P.a (gZ N.a gm),jI P.b (gZ N.b gm),jI P.c (gZ N.c gm),jI P.d (gZ N.d gm)⟩
def alQ (D:Q4):Q4:=aob D.a D.b D.c D.d
def alR (q0 q1 q2 q3 g0 g1 g2:Wd):Q4:=J7 q0 q1 q2 q3 (A_ g0 12) (A_ g1 12) (A_ g2 12)
def stepOf (q0 q1 q2 q3:Wd) (R E:Q4) (ga:Wd):Q4:=aoc (P9 q0 R.a E.a ga) (P9 q1 R.b E.b ga) (P9 q2 R.c E.c ga) (P9 q3 R.d E.d ga)
def aiC (q0 q1 q2 q3 a0 a1 a2 m0 m1 m2:Wd):Q4:=alQ (alP (aiA q0 q1 q2 q3 a0 a1 a2) (aiB q0 q1 q2 q3 m0 m1 m2) (xG m0 m1 m2))
def Xa (q0 q1 q2 q3 g0 g1 g2 a0 a1 a2 m0 m1 m2:Wd):Q4:=stepOf q0 q1 q2 q3 (alR q0 q1 q2 q3 g0 g1 g2) (aiC q0 q1 q2 q3 a0 a1 a2 m0 m1 m2) (xE a0 a1 a2)
end

section
open Go.RowKit
theorem acM:BitVec.ofInt 32 (-1) = BitVec.allOnes 32:=by decide
theorem Gu:BitVec.ofInt 32 0 = 0#32:=by decide
theorem ai0 {x:Int} (h:aC x):II x (-1) = x:=by
 show IntKind.i32.wrap ((BitVec.ofInt 32 x &&& BitVec.ofInt 32 (-1)).toNat:Int) = _;rw [acM,BitVec.and_allOnes,IntKind.wrap_i32,BitVec.toNat_ofInt];unfold aC at h;omega
theorem afA (x:Int):II x 0 = 0:=by
 show IntKind.i32.wrap ((BitVec.ofInt 32 x &&& BitVec.ofInt 32 0).toNat:Int) = _;rw [Gu,BitVec.and_zero];decide
theorem or_none {x:Int} (h:aC x):RI x 0 = x:=by
 show IntKind.i32.wrap ((BitVec.ofInt 32 x ||| BitVec.ofInt 32 0).toNat:Int) = _;rw [Gu,BitVec.or_zero,IntKind.wrap_i32,BitVec.toNat_ofInt];unfold aC at h;omega
theorem none_or {x:Int} (h:aC x):RI 0 x = x:=by
 show IntKind.i32.wrap ((BitVec.ofInt 32 0 ||| BitVec.ofInt 32 x).toNat:Int) = _;rw [Gu,BitVec.zero_or,IntKind.wrap_i32,BitVec.toNat_ofInt];unfold aC at h;omega
theorem afB {x:Int} (h:aC x):IJ x 0 = x:=by
 show IntKind.i32.wrap ((BitVec.ofInt 32 x &&& ~~~BitVec.ofInt 32 0).toNat:Int) = _;rw [Gu,BitVec.not_zero,BitVec.and_allOnes,IntKind.wrap_i32,BitVec.toNat_ofInt];unfold aC at h;omega
theorem ai1 {x:Int} (h:aC x):IJ x (-1) = 0:=by
 show IntKind.i32.wrap ((BitVec.ofInt 32 x &&& ~~~BitVec.ofInt 32 (-1)).toNat:Int) = _;rw [acM,BitVec.not_allOnes,BitVec.and_zero];decide
theorem ai2 (a b:Wd):Ew (kW (-1)) a b = a:=Wd.fE (by
 show RI (II a.v (kW (-1)).v) (IJ b.v (kW (-1)).v) = a.v
 rw [Es (by decide),ai0 a.ok,ai1 b.ok,or_none a.ok])
theorem afC (a b:Wd):Ew (kW 0) a b = b:=Wd.fE (by
 show RI (II a.v (kW 0).v) (IJ b.v (kW 0).v) = b.v
 rw [Es (by decide),afA,afB b.ok,none_or b.ok])
end

section
open Go.RowKit Go.Deep
theorem Uu {x n:Int} (hn:0 < n):x % n = if x.tmod n < 0 then x.tmod n + n else x.tmod n:=by
 rw [Int.tmod_eq_emod];have h1:=Int.emod_nonneg x (by omega:n≠0);have h2:=Int.emod_lt_of_pos x hn;split <;> split <;> omega
theorem EP (x n:Int) (w:World) (hx:-9223372036854775808<=x/\x<=9223372036854775807) (hn:0 < n/\n<=9223372036854775807) :
 Calls Tryz.prog 103 #[.int .i64 x,.int .i64 n] w fun e w' => e = .returned (.int .i64 (x % n))/\w = w':=by
 have hm:=@Uu x n hn.1;have h1:=Int.emod_nonneg x (by omega:n≠0);have h2:=Int.emod_lt_of_pos x hn.1;by_cases h0:x.tmod n < 0
 . rw [if_pos h0] at hm
   go_enter Tryz.func103,Tryz.ntmps103
   go_wp2_with fail
   go_ret;exact ⟨by first | rfl | (rw [hm]; rfl),rfl⟩
 . rw [if_neg h0] at hm
   go_enter Tryz.func103,Tryz.ntmps103
   go_wp2_with fail
   go_ret;exact ⟨by first | rfl | (rw [hm]; rfl),rfl⟩
theorem Uw (x:Int) (w:World) (hx:-9223372036854775808<=x/\x<=9223372036854775807) :
 Calls Tryz.prog 62 #[.int .i64 x,.int .i64 32] w fun e w' => e = .returned (.int .i64 (wrap32 x))/\w = w':=by
 go_enter Tryz.func62,Tryz.ntmps62
 go_wp2_with fail
 go_loopw [5,6] (fun m i wr => ∃ k:Nat,k<=32/\i = .int .i64 k/\m = .int .i64 ((2:Int) ^ k)/\w = wr) (fun m i _ => 32 - (intOf i).toNat)
 case atStart => exact ⟨0,by omega,rfl,rfl,rfl⟩
 case round =>
  obtain ⟨k,hk,rfl,rfl,rfl⟩:=hrel;by_cases hlt:k < 32
  . have hp : (2 : Int) ^ k <= 2147483648 := by
     have:(2:Int) ^ k<=2 ^ 31:=by exact_mod_cast Nat.pow_le_pow_right (by omega:1<=2) (by omega:k<=31)
     simpa using this
    have hq:0 < (2:Int) ^ k:=Int.pow_pos (by omega);have hs:(2:Int) * 2 ^ k = 2 ^ (k + 1):=by rw [Int.pow_succ,Int.mul_comm]
    generalize hP:(2:Int) ^ k = p at *;go_wp2_with fail
    go_roundw
    case rel => exact ⟨k + 1,by omega,by go_num,by first | rfl | rw [hs],by trivial⟩
    case measure => simp [intOf]; omega
  . obtain rfl:k = 32:=by omega
    go_wp2_with fail
    refine (EP x 4294967296 _ hx (by omega)).mono ?_;rintro e w' ⟨rfl,rfl⟩;by_cases hg:2147483648<=x % 4294967296
    . have hw:wrap32 x = x % 4294967296 - 4294967296:=by unfold wrap32; omega
      have hb:x % 4294967296 < 4294967296:=by omega
      generalize x % 4294967296 = y at *;go_wp2;go_ret;exact ⟨by rw [hw]; rfl,rfl⟩
    . have hw:wrap32 x = x % 4294967296:=by unfold wrap32; omega
      have hb:0<=x % 4294967296:=by omega
      generalize x % 4294967296 = y at *;go_wp2;go_ret;exact ⟨by rw [hw]; rfl,rfl⟩
theorem acT (x:Int) (w:World) (hx:-9223372036854775808<=x/\x<=9223372036854775807) :
 Calls Tryz.prog 61 #[.int .i64 x] w fun e w' => e = .returned (.int .i32 (wrap32 x))/\w = w':=by
 have hb:-2147483648<=wrap32 x/\wrap32 x<=2147483647:=by unfold wrap32; omega
 go_enter Tryz.func61,Tryz.ntmps61
 go_wp2_with fail
 refine (Uw x _ hx).mono ?_;rintro e w' ⟨rfl,rfl⟩;generalize hy:wrap32 x = y at *;go_wp2;go_ret;refine ⟨?_,rfl⟩
 first | rfl | (rw [hy]; rfl)
def sqP (x:Int):Int:=wrap32 (x * x) % 4294967296
def XD (a b c:Int):Int:=wrap32 (sqP a + sqP b + sqP c)
def inside (lo hi a b c:Int):Bool:=decide (lo<=XD a b c % 4294967296) && decide (XD a b c % 4294967296<=hi)
def ZU (m:Wd) (f:Int):Int:=if m.v = 0 then f else 0
def acW (ga gm:Wd):Int:=ZU ga 2 + ZU gm 4
def jy (a b c d:Wd):Bool:=(jO a b c d).v != 0
end
end Go.Proofs.YtnkmmaijigihpaaGreatDoor
