/- Texts of this claim, side by side: Num2, Alu, Mill2, In32, Wd, Wdef, BitLaw, Ref01, Ref32, Ref32b, TopDef, NextDef, OfDef. -/
import Derived.Test.YtbhikopphamgjaaGreatDoorAU1
import Derived.Test.YtbhikopphamgjaaGreatDoorShelfB
set_option linter.unusedVariables false
set_option maxRecDepth 100000
set_option maxHeartbeats 8000000
namespace Go.Proofs.YtbhikopphamgjaaGreatDoor
section
open Go.RowKit Go.Deep
def yE (a:Int):Int:=32 - (Lib.bitLen (a % 4294967296).toNat:Int)
def IZ (a b:Int):Int:=wrap32 (a * b % 4294967296)
def Gt (a b:Int):Int:=mO (a * b / 1073741824 + a * b / 536870912 % 2)
theorem YL (a:Int) (w:World) (ha:-2147483648<=a/\a<=2147483647) :
 Calls Tryz.prog 278 #[.int .i32 a] w fun e w' => e = .returned (.int .i32 (yD a))/\ah w w' []:=by
 obtain ⟨n,hn⟩:∃ n,n = vN a:=⟨_,rfl⟩
 have e:yD a = max a n:=by unfold yD; rw [hn]
 rw [e];have HN:=hide hn;clear hn e;go_enter Tryz.func278,Tryz.ntmps278
 go_wp2_with fail
 refine (Kq a _ ha).mono ?_;rintro e w1 ⟨rfl,hc⟩;rw [<- HN.out];have HC:=hide hc;clear hc HN;go_wp2
 all_goals
  go_ret;exact ⟨by first | (rw [show max a n = if a < n then n else a by split <;> omega]; rfl) | (rw [show max a n = n by omega]; rfl) | (rw [show max a n = a by omega]; rfl),HC.out⟩
theorem abo (a:Int) (w:World) (ha:-2147483648<=a/\a<=2147483647) :
 Calls Tryz.prog 276 #[.int .i32 a] w fun e w' => e = .returned (.int .i32 (yE a))/\w = w':=by
 have l:=Any.bitLen_le32 (a % 4294967296) (by omega) (by omega);have hw:wrap32 (32 - (Lib.bitLen (a % 4294967296).toNat:Int)) = yE a:=by unfold yE wrap32; omega
 have HW:=hide hw;clear hw;go_enter Tryz.func276,Tryz.ntmps276
 go_wp2_with fail
 refine (Tryz.bits_LeadingZeros32 _ _ (by omega) (by omega)).mono ?_;rintro e w1 ⟨rfl,rfl⟩;clear l;generalize (32 - (Lib.bitLen (a % 4294967296).toNat:Int)) = n at *;go_wp2;go_ret;exact ⟨by rw [<- HW.out]; rfl,rfl⟩
theorem YM (a b:Int) (w:World) (ha:-2147483648<=a/\a<=2147483647) (hb:-2147483648<=b/\b<=2147483647) :
 Calls Tryz.prog 234 #[.int .i32 a,.int .i32 b] w fun e w' => e = .returned (.int .i32 (IZ a b))/\ah w w' []:=by
 have e:IZ a b = wrap32 (wrap64 (a * b) % 4294967296):=by
  unfold IZ;generalize a * b = p;unfold wrap64; congr 1; omega
 rw [e];clear e;go_enter Tryz.func234,Tryz.ntmps234
 go_wp2;go_ret;exact ⟨rfl,(ah.refl w []).alloc _⟩
theorem Ve (x:Int):bits BinOp.and IntKind.i64 x 1 = x % 2:=by
 show IntKind.i64.wrap ((BitVec.ofInt 64 x &&& BitVec.ofInt 64 1).toNat:Int) = _;have h2:(BitVec.ofInt 64 1).toNat = 1:=by decide
 rw [BitVec.toNat_and,h2,Nat.and_one_is_mod,IntKind.wrap_i64,BitVec.toNat_ofInt];omega
theorem Ry (w:World):Calls Tryz.prog 253 #[.int .i64 30] w fun e w' => e = .returned (.agg #[.func (.func 274) #[] #[.pointer (some ⟨w.heap.size,0,none⟩)]])/\ah w w' []/\w'.cell? ⟨w.heap.size,0,none⟩ = some (.int .i64 30)/\w.heap.size < w'.heap.size:=by
 have hc:=(ay.new w 3 [.int .i64 30])
 have hz:=ay.new (w.alloc (.cells #[.int .i64 30] 3)) 335 [(.func (.func 274) #[] #[.pointer (some ⟨w.heap.size,0,none⟩)])];have h1:=hc.alloc (.cells #[(.func (.func 274) #[] #[.pointer (some ⟨w.heap.size,0,none⟩)])] 335);have c1:=h1.cell' (i:=0) rfl;have c2:=hz.cell' (i:=0) rfl;rw [size_alloc] at c2;have HC:=hide (((ah.refl w []).alloc (.cells #[.int .i64 30] 3)).alloc (.cells #[(.func (.func 274) #[] #[.pointer (some ⟨w.heap.size,0,none⟩)])] 335));clear hc hz h1;go_enter Tryz.func253,Tryz.ntmps253
 go_wp2;refine bodyPost_ret (v:=.agg #[.func (.func 274) #[] #[.pointer (some ⟨w.heap.size,0,none⟩)]]) ?_ rfl ⟨rfl,HC.out,c1,by simp; omega⟩;simp [results,Tryz.f253,go_sem,c2]
theorem O6 (x:Int) (p:Addr) (w:World) (hp:w.cell? p = some (.int .i64 30)) (hx:-4611686018427387904<=x/\x<=4611686018427387904):Calls Tryz.prog 274 #[.int .i64 x,.pointer (some p)] w fun e w' => e = .returned (.int .i32 (mO (x / 1073741824 + x / 536870912 % 2)))/\w = w':=by
 have hb:=Ve (x / 536870912);have hw:wrap64 (x / 1073741824 + x / 536870912 % 2) = x / 1073741824 + x / 536870912 % 2:=by unfold wrap64; omega
 go_enter Tryz.func274,Tryz.ntmps274
 go_wp2;go_ret;exact ⟨by simp only [mO]; rfl,rfl⟩
theorem prod_bound {a b:Int} (ha:-2147483648<=a/\a<=2147483647) (hb:-2147483648<=b/\b<=2147483647):-4611686018427387904<=a * b/\a * b<=4611686018427387904:=by
 have h:(a * b).natAbs<=2147483648 * 2147483648:=by
  rw [Int.natAbs_mul]; exact Nat.mul_le_mul (by omega) (by omega)
 omega
theorem aek (a b:Int) (p:Addr) (w:World) (ha:-2147483648<=a/\a<=2147483647) (hb:-2147483648<=b/\b<=2147483647) (hp:w.cell? p = some (.int .i64 30)) :
 Calls Tryz.prog 251 #[.agg #[.func (.func 274) #[] #[.pointer (some p)]],.int .i32 a,.int .i32 b] w fun e w' => e = .returned (.int .i32 (Gt a b))/\ah w w' []:=by
 have hpb:=prod_bound ha hb;have hm:wrap64 (a * b) = a * b:=by generalize a * b = p at *; unfold wrap64; omega
 have hp1:=fun o => ((ah.refl w []).alloc o).cell hp (by simp);go_enter Tryz.func251,Tryz.ntmps251
 go_wp2_with fail
 refine (O6 _ _ _ (hp1 _) hpb).mono ?_;rintro e w1 ⟨rfl,rfl⟩;go_wp2;go_ret;exact ⟨rfl,(ah.refl w []).alloc _⟩
theorem YN (a b:Int) (w:World) (ha:-2147483648<=a/\a<=2147483647) (hb:-2147483648<=b/\b<=2147483647) :
 Calls Tryz.prog 236 #[.int .i32 a,.int .i32 b] w fun e w' => e = .returned (.int .i32 (Gt a b))/\ah w w' []:=by
 go_enter Tryz.func236,Tryz.ntmps236
 go_wp2_with fail
 refine (Ry _).mono ?_;rintro e w1 ⟨rfl,hc,hp,_⟩;have HC:=hide hc;clear hc;go_wp2_with fail
 refine (aek a b _ _ ha hb hp).mono ?_;rintro e w2 ⟨rfl,hc⟩;have HC2:=hide hc;clear hc;go_wp2;go_ret;exact ⟨rfl,HC.out.trans HC2.out (by simp)⟩
def ael (a b:Int):Int:=wrap32 (a + b)
def aem (a b:Int):Int:=wrap32 (a - b)
def I4 (a b:Int):Int:=bits BinOp.and IntKind.i32 a b
def Rz (a b:Int):Int:=bits BinOp.or IntKind.i32 a b
def aen (a b:Int):Int:=bits BinOp.xor IntKind.i32 a b
def I5 (a b:Int):Int:=bits BinOp.andNot IntKind.i32 a b
abbrev aC (a:Int):Prop:=-2147483648<=a/\a<=2147483647
theorem ajq (a b:Int) (w:World) (ha:aC a) (hb:aC b):Calls Tryz.prog 179 #[.int .i64 1,.int .i32 a,.int .i32 b] w fun e w' => e = .returned (.tuple #[.int .i32 (ael a b),.bool true])/\ah w w' []:=by
 have HC:=hide (ah.refl w []);go_enter Tryz.func179,Tryz.ntmps179
 go_wp2;go_ret2;exact ⟨rfl,HC.out⟩
theorem ajr (a b:Int) (w:World) (ha:aC a) (hb:aC b):Calls Tryz.prog 179 #[.int .i64 2,.int .i32 a,.int .i32 b] w fun e w' => e = .returned (.tuple #[.int .i32 (aem a b),.bool true])/\ah w w' []:=by
 have HC:=hide (ah.refl w []);go_enter Tryz.func179,Tryz.ntmps179
 go_wp2;go_ret2;exact ⟨rfl,HC.out⟩
theorem ahm (a b:Int) (w:World) (ha:aC a) (hb:aC b):Calls Tryz.prog 179 #[.int .i64 3,.int .i32 a,.int .i32 b] w fun e w' => e = .returned (.tuple #[.int .i32 (Gq a b),.bool true])/\ah w w' []:=by
 go_enter Tryz.func179,Tryz.ntmps179
 go_wp2_with fail
 refine (YJ a b _ ha hb).mono ?_;rintro e w1 ⟨rfl,hc⟩;have HC:=hide hc;clear hc;go_wp2;go_ret2;exact ⟨rfl,HC.out⟩
theorem ahn (a b:Int) (w:World) (ha:aC a) (hb:aC b):Calls Tryz.prog 179 #[.int .i64 4,.int .i32 a,.int .i32 b] w fun e w' => e = .returned (.tuple #[.int .i32 (Gs a b),.bool true])/\ah w w' []:=by
 go_enter Tryz.func179,Tryz.ntmps179
 go_wp2_with fail
 refine (YK a b _ ha hb).mono ?_;rintro e w1 ⟨rfl,hc⟩;have HC:=hide hc;clear hc;go_wp2;go_ret2;exact ⟨rfl,HC.out⟩
theorem ajs (a b:Int) (w:World) (ha:aC a) (hb:aC b):Calls Tryz.prog 179 #[.int .i64 5,.int .i32 a,.int .i32 b] w fun e w' => e = .returned (.tuple #[.int .i32 (I4 a b),.bool true])/\ah w w' []:=by
 have HC:=hide (ah.refl w []);go_enter Tryz.func179,Tryz.ntmps179
 go_wp2;go_ret2;exact ⟨rfl,HC.out⟩
theorem am6 (a b:Int) (w:World) (ha:aC a) (hb:aC b):Calls Tryz.prog 179 #[.int .i64 6,.int .i32 a,.int .i32 b] w fun e w' => e = .returned (.tuple #[.int .i32 (Rz a b),.bool true])/\ah w w' []:=by
 have HC:=hide (ah.refl w []);go_enter Tryz.func179,Tryz.ntmps179
 go_wp2;go_ret2;exact ⟨rfl,HC.out⟩
theorem ajt (a b:Int) (w:World) (ha:aC a) (hb:aC b):Calls Tryz.prog 179 #[.int .i64 7,.int .i32 a,.int .i32 b] w fun e w' => e = .returned (.tuple #[.int .i32 (aen a b),.bool true])/\ah w w' []:=by
 have HC:=hide (ah.refl w []);go_enter Tryz.func179,Tryz.ntmps179
 go_wp2;go_ret2;exact ⟨rfl,HC.out⟩
theorem aju (a b:Int) (w:World) (ha:aC a) (hb:aC b):Calls Tryz.prog 179 #[.int .i64 8,.int .i32 a,.int .i32 b] w fun e w' => e = .returned (.tuple #[.int .i32 (I5 a b),.bool true])/\ah w w' []:=by
 have HC:=hide (ah.refl w []);go_enter Tryz.func179,Tryz.ntmps179
 go_wp2;go_ret2;exact ⟨rfl,HC.out⟩
theorem ajv (a b:Int) (w:World) (ha:aC a) (hb:aC b):Calls Tryz.prog 179 #[.int .i64 9,.int .i32 a,.int .i32 b] w fun e w' => e = .returned (.tuple #[.int .i32 (yC a b),.bool true])/\ah w w' []:=by
 go_enter Tryz.func179,Tryz.ntmps179
 go_wp2_with fail
 refine (abl a b _).mono ?_;rintro e w1 ⟨rfl,hc⟩;have HC:=hide hc;clear hc;go_wp2;go_ret2;exact ⟨rfl,HC.out⟩
theorem ajw (a b:Int) (w:World) (ha:aC a) (hb:aC b):Calls Tryz.prog 179 #[.int .i64 10,.int .i32 a,.int .i32 b] w fun e w' => e = .returned (.tuple #[.int .i32 (EC a b),.bool true])/\ah w w' []:=by
 go_enter Tryz.func179,Tryz.ntmps179
 go_wp2_with fail
 refine (abm a b _).mono ?_;rintro e w1 ⟨rfl,hc⟩;have HC:=hide hc;clear hc;go_wp2;go_ret2;exact ⟨rfl,HC.out⟩
theorem ajx (a b:Int) (w:World) (ha:aC a) (hb:aC b):Calls Tryz.prog 179 #[.int .i64 11,.int .i32 a,.int .i32 b] w fun e w' => e = .returned (.tuple #[.int .i32 (MH a b),.bool true])/\ah w w' []:=by
 go_enter Tryz.func179,Tryz.ntmps179
 go_wp2_with fail
 refine (abk a b _).mono ?_;rintro e w1 ⟨rfl,hc⟩;have HC:=hide hc;clear hc;go_wp2;go_ret2;exact ⟨rfl,HC.out⟩
theorem ajy (a b:Int) (w:World) (ha:aC a) (hb:aC b):Calls Tryz.prog 179 #[.int .i64 13,.int .i32 a,.int .i32 b] w fun e w' => e = .returned (.tuple #[.int .i32 (Bc a b),.bool true])/\ah w w' []:=by
 have HC:=hide (ah.refl w []);go_enter Tryz.func179,Tryz.ntmps179
 go_wp2_with fail
 refine (YF a b _).mono ?_;rintro e w1 ⟨rfl,rfl⟩;go_wp2;go_ret2;exact ⟨rfl,HC.out⟩
theorem aho (a b:Int) (w:World) (ha:aC a) (hb:aC b):Calls Tryz.prog 179 #[.int .i64 14,.int .i32 a,.int .i32 b] w fun e w' => e = .returned (.tuple #[.int .i32 (tY a b),.bool true])/\ah w w' []:=by
 have HC:=hide (ah.refl w []);go_enter Tryz.func179,Tryz.ntmps179
 go_wp2_with fail
 refine (Vd a b _).mono ?_;rintro e w1 ⟨rfl,rfl⟩;go_wp2;go_ret2;exact ⟨rfl,HC.out⟩
theorem ajz (a b:Int) (w:World) (ha:aC a) (hb:aC b):Calls Tryz.prog 179 #[.int .i64 15,.int .i32 a,.int .i32 b] w fun e w' => e = .returned (.tuple #[.int .i32 (Bd a b),.bool true])/\ah w w' []:=by
 have HC:=hide (ah.refl w []);go_enter Tryz.func179,Tryz.ntmps179
 go_wp2_with fail
 refine (YG a b _).mono ?_;rintro e w1 ⟨rfl,rfl⟩;go_wp2;go_ret2;exact ⟨rfl,HC.out⟩
theorem Vf (a b:Int) (w:World) (ha:aC a) (hb:aC b):Calls Tryz.prog 208 #[.int .i64 18,.int .i32 a,.int .i32 b] w fun e w' => e = .returned (.tuple #[.int .i32 (IZ a b),.bool true])/\ah w w' []:=by
 go_enter Tryz.func208,Tryz.ntmps208
 go_wp2_with fail
 refine (YM a b _ ha hb).mono ?_;rintro e w1 ⟨rfl,hc⟩;have HC:=hide hc;clear hc;go_wp2;go_ret2;exact ⟨rfl,HC.out⟩
theorem ajA (a b:Int) (w:World) (ha:aC a) (hb:aC b):Calls Tryz.prog 179 #[.int .i64 18,.int .i32 a,.int .i32 b] w fun e w' => e = .returned (.tuple #[.int .i32 (IZ a b),.bool true])/\ah w w' []:=by
 go_enter Tryz.func179,Tryz.ntmps179
 go_wp2_with fail
 refine (Vf a b _ ha hb).mono ?_;rintro e w1 ⟨rfl,hc⟩;have HC:=hide hc;clear hc;go_wp2;go_ret2;exact ⟨rfl,HC.out⟩
theorem RD (a b:Int) (w:World) (ha:aC a) (hb:aC b):Calls Tryz.prog 208 #[.int .i64 20,.int .i32 a,.int .i32 b] w fun e w' => e = .returned (.tuple #[.int .i32 (Gt a b),.bool true])/\ah w w' []:=by
 go_enter Tryz.func208,Tryz.ntmps208
 go_wp2_with fail
 refine (YN a b _ ha hb).mono ?_;rintro e w1 ⟨rfl,hc⟩;have HC:=hide hc;clear hc;go_wp2;go_ret2;exact ⟨rfl,HC.out⟩
theorem ahp (a b:Int) (w:World) (ha:aC a) (hb:aC b):Calls Tryz.prog 179 #[.int .i64 20,.int .i32 a,.int .i32 b] w fun e w' => e = .returned (.tuple #[.int .i32 (Gt a b),.bool true])/\ah w w' []:=by
 go_enter Tryz.func179,Tryz.ntmps179
 go_wp2_with fail
 refine (RD a b _ ha hb).mono ?_;rintro e w1 ⟨rfl,hc⟩;have HC:=hide hc;clear hc;go_wp2;go_ret2;exact ⟨rfl,HC.out⟩
theorem YO (a:Int) (w:World) (ha:aC a):Calls Tryz.prog 255 #[.int .i32 a] w fun e w' => e = .returned (.int .i32 (yE a))/\ah w w' []:=by
 have HC:=hide (ah.refl w []);go_enter Tryz.func255,Tryz.ntmps255
 go_wp2_with fail
 refine (abo a _ ha).mono ?_;rintro e w1 ⟨rfl,rfl⟩;go_wp2;go_ret;exact ⟨rfl,HC.out⟩
theorem abp (a:Int) (w:World) (ha:aC a):Calls Tryz.prog 254 #[.func (.func 255) #[] #[],.int .i32 a] w fun e w' => e = .returned (.tuple #[.int .i32 (yE a),.bool true])/\ah w w' []:=by
 go_enter Tryz.func254,Tryz.ntmps254
 go_wp2_with fail
 refine (YO a _ ha).mono ?_;rintro e w1 ⟨rfl,hc⟩;have HC:=hide hc;clear hc;go_wp2;go_ret2;exact ⟨rfl,HC.out⟩
theorem abq (a:Int) (w:World) (ha:aC a):Calls Tryz.prog 238 #[.int .i64 24,.int .i32 a] w fun e w' => e = .returned (.tuple #[.int .i32 (yE a),.bool true])/\ah w w' []:=by
 go_enter Tryz.func238,Tryz.ntmps238
 go_wp2_with fail
 refine (abp a _ ha).mono ?_;rintro e w1 ⟨rfl,hc⟩;have HC:=hide hc;clear hc;go_wp2;go_ret2;exact ⟨rfl,HC.out⟩
theorem Vg (a b:Int) (w:World) (ha:aC a) (hb:aC b):Calls Tryz.prog 208 #[.int .i64 24,.int .i32 a,.int .i32 b] w fun e w' => e = .returned (.tuple #[.int .i32 (yE a),.bool true])/\ah w w' []:=by
 go_enter Tryz.func208,Tryz.ntmps208
 go_wp2_with fail
 refine (abq a _ ha).mono ?_;rintro e w1 ⟨rfl,hc⟩;have HC:=hide hc;clear hc;go_wp2;go_ret2;exact ⟨rfl,HC.out⟩
theorem ajB (a b:Int) (w:World) (ha:aC a) (hb:aC b):Calls Tryz.prog 179 #[.int .i64 24,.int .i32 a,.int .i32 b] w fun e w' => e = .returned (.tuple #[.int .i32 (yE a),.bool true])/\ah w w' []:=by
 go_enter Tryz.func179,Tryz.ntmps179
 go_wp2_with fail
 refine (Vg a b _ ha hb).mono ?_;rintro e w1 ⟨rfl,hc⟩;have HC:=hide hc;clear hc;go_wp2;go_ret2;exact ⟨rfl,HC.out⟩
theorem YP (a:Int) (w:World) (ha:aC a):Calls Tryz.prog 256 #[.int .i32 a] w fun e w' => e = .returned (.int .i32 (vN a))/\ah w w' []:=by
 go_enter Tryz.func256,Tryz.ntmps256
 go_wp2_with fail
 refine (Kq a _ ha).mono ?_;rintro e w1 ⟨rfl,hc⟩;have HC:=hide hc;clear hc;go_wp2;go_ret;exact ⟨rfl,HC.out⟩
theorem abr (a:Int) (w:World) (ha:aC a):Calls Tryz.prog 254 #[.func (.func 256) #[] #[],.int .i32 a] w fun e w' => e = .returned (.tuple #[.int .i32 (vN a),.bool true])/\ah w w' []:=by
 go_enter Tryz.func254,Tryz.ntmps254
 go_wp2_with fail
 refine (YP a _ ha).mono ?_;rintro e w1 ⟨rfl,hc⟩;have HC:=hide hc;clear hc;go_wp2;go_ret2;exact ⟨rfl,HC.out⟩
theorem abt (a:Int) (w:World) (ha:aC a):Calls Tryz.prog 238 #[.int .i64 25,.int .i32 a] w fun e w' => e = .returned (.tuple #[.int .i32 (vN a),.bool true])/\ah w w' []:=by
 go_enter Tryz.func238,Tryz.ntmps238
 go_wp2_with fail
 refine (abr a _ ha).mono ?_;rintro e w1 ⟨rfl,hc⟩;have HC:=hide hc;clear hc;go_wp2;go_ret2;exact ⟨rfl,HC.out⟩
theorem Vh (a b:Int) (w:World) (ha:aC a) (hb:aC b):Calls Tryz.prog 208 #[.int .i64 25,.int .i32 a,.int .i32 b] w fun e w' => e = .returned (.tuple #[.int .i32 (vN a),.bool true])/\ah w w' []:=by
 go_enter Tryz.func208,Tryz.ntmps208
 go_wp2_with fail
 refine (abt a _ ha).mono ?_;rintro e w1 ⟨rfl,hc⟩;have HC:=hide hc;clear hc;go_wp2;go_ret2;exact ⟨rfl,HC.out⟩
theorem ajC (a b:Int) (w:World) (ha:aC a) (hb:aC b):Calls Tryz.prog 179 #[.int .i64 25,.int .i32 a,.int .i32 b] w fun e w' => e = .returned (.tuple #[.int .i32 (vN a),.bool true])/\ah w w' []:=by
 go_enter Tryz.func179,Tryz.ntmps179
 go_wp2_with fail
 refine (Vh a b _ ha hb).mono ?_;rintro e w1 ⟨rfl,hc⟩;have HC:=hide hc;clear hc;go_wp2;go_ret2;exact ⟨rfl,HC.out⟩
theorem YQ (a:Int) (w:World) (ha:aC a):Calls Tryz.prog 257 #[.int .i32 a] w fun e w' => e = .returned (.int .i32 (yD a))/\ah w w' []:=by
 go_enter Tryz.func257,Tryz.ntmps257
 go_wp2_with fail
 refine (YL a _ ha).mono ?_;rintro e w1 ⟨rfl,hc⟩;have HC:=hide hc;clear hc;go_wp2;go_ret;exact ⟨rfl,HC.out⟩
theorem abu (a:Int) (w:World) (ha:aC a):Calls Tryz.prog 254 #[.func (.func 257) #[] #[],.int .i32 a] w fun e w' => e = .returned (.tuple #[.int .i32 (yD a),.bool true])/\ah w w' []:=by
 go_enter Tryz.func254,Tryz.ntmps254
 go_wp2_with fail
 refine (YQ a _ ha).mono ?_;rintro e w1 ⟨rfl,hc⟩;have HC:=hide hc;clear hc;go_wp2;go_ret2;exact ⟨rfl,HC.out⟩
theorem abv (a:Int) (w:World) (ha:aC a):Calls Tryz.prog 238 #[.int .i64 26,.int .i32 a] w fun e w' => e = .returned (.tuple #[.int .i32 (yD a),.bool true])/\ah w w' []:=by
 go_enter Tryz.func238,Tryz.ntmps238
 go_wp2_with fail
 refine (abu a _ ha).mono ?_;rintro e w1 ⟨rfl,hc⟩;have HC:=hide hc;clear hc;go_wp2;go_ret2;exact ⟨rfl,HC.out⟩
theorem Vj (a b:Int) (w:World) (ha:aC a) (hb:aC b):Calls Tryz.prog 208 #[.int .i64 26,.int .i32 a,.int .i32 b] w fun e w' => e = .returned (.tuple #[.int .i32 (yD a),.bool true])/\ah w w' []:=by
 go_enter Tryz.func208,Tryz.ntmps208
 go_wp2_with fail
 refine (abv a _ ha).mono ?_;rintro e w1 ⟨rfl,hc⟩;have HC:=hide hc;clear hc;go_wp2;go_ret2;exact ⟨rfl,HC.out⟩
theorem ajD (a b:Int) (w:World) (ha:aC a) (hb:aC b):Calls Tryz.prog 179 #[.int .i64 26,.int .i32 a,.int .i32 b] w fun e w' => e = .returned (.tuple #[.int .i32 (yD a),.bool true])/\ah w w' []:=by
 go_enter Tryz.func179,Tryz.ntmps179
 go_wp2_with fail
 refine (Vj a b _ ha hb).mono ?_;rintro e w1 ⟨rfl,hc⟩;have HC:=hide hc;clear hc;go_wp2;go_ret2;exact ⟨rfl,HC.out⟩
theorem Vk (a:Int) (w:World) (ha:aC a):Calls Tryz.prog 259 #[.int .i32 a] w fun e w' => e = .returned (.int .i32 (wV a))/\ah w w' []:=by
 have HC:=hide (ah.refl w []);go_enter Tryz.func259,Tryz.ntmps259
 go_wp2_with fail
 refine (YH a _).mono ?_;rintro e w1 ⟨rfl,rfl⟩;go_wp2;go_ret;exact ⟨rfl,HC.out⟩
theorem YR (a:Int) (w:World) (ha:aC a):Calls Tryz.prog 254 #[.func (.func 259) #[] #[],.int .i32 a] w fun e w' => e = .returned (.tuple #[.int .i32 (wV a),.bool true])/\ah w w' []:=by
 go_enter Tryz.func254,Tryz.ntmps254
 go_wp2_with fail
 refine (Vk a _ ha).mono ?_;rintro e w1 ⟨rfl,hc⟩;have HC:=hide hc;clear hc;go_wp2;go_ret2;exact ⟨rfl,HC.out⟩
theorem YS (a:Int) (w:World) (ha:aC a):Calls Tryz.prog 238 #[.int .i64 28,.int .i32 a] w fun e w' => e = .returned (.tuple #[.int .i32 (wV a),.bool true])/\ah w w' []:=by
 go_enter Tryz.func238,Tryz.ntmps238
 go_wp2_with fail
 refine (YR a _ ha).mono ?_;rintro e w1 ⟨rfl,hc⟩;have HC:=hide hc;clear hc;go_wp2;go_ret2;exact ⟨rfl,HC.out⟩
theorem RF (a b:Int) (w:World) (ha:aC a) (hb:aC b):Calls Tryz.prog 208 #[.int .i64 28,.int .i32 a,.int .i32 b] w fun e w' => e = .returned (.tuple #[.int .i32 (wV a),.bool true])/\ah w w' []:=by
 go_enter Tryz.func208,Tryz.ntmps208
 go_wp2_with fail
 refine (YS a _ ha).mono ?_;rintro e w1 ⟨rfl,hc⟩;have HC:=hide hc;clear hc;go_wp2;go_ret2;exact ⟨rfl,HC.out⟩
theorem ahq (a b:Int) (w:World) (ha:aC a) (hb:aC b):Calls Tryz.prog 179 #[.int .i64 28,.int .i32 a,.int .i32 b] w fun e w' => e = .returned (.tuple #[.int .i32 (wV a),.bool true])/\ah w w' []:=by
 go_enter Tryz.func179,Tryz.ntmps179
 go_wp2_with fail
 refine (RF a b _ ha hb).mono ?_;rintro e w1 ⟨rfl,hc⟩;have HC:=hide hc;clear hc;go_wp2;go_ret2;exact ⟨rfl,HC.out⟩
def YT (a b:Int):Int:=min a b
def YU (a b:Int):Int:=max a b
theorem ajE (a b:Int) (w:World) (ha:aC a) (hb:aC b):Calls Tryz.prog 179 #[.int .i64 16,.int .i32 a,.int .i32 b] w fun e w' => e = .returned (.tuple #[.int .i32 (YT a b),.bool true])/\ah w w' []:=by
 have HC:=hide (ah.refl w []);go_enter Tryz.func179,Tryz.ntmps179
 go_wp2;go_ret2;exact ⟨rfl,HC.out⟩
theorem ajF (a b:Int) (w:World) (ha:aC a) (hb:aC b):Calls Tryz.prog 179 #[.int .i64 17,.int .i32 a,.int .i32 b] w fun e w' => e = .returned (.tuple #[.int .i32 (YU a b),.bool true])/\ah w w' []:=by
 have HC:=hide (ah.refl w []);go_enter Tryz.func179,Tryz.ntmps179
 go_wp2;go_ret2;exact ⟨rfl,HC.out⟩
theorem nM (n:Int):aC (wrap32 n):=by unfold aC wrap32; omega
theorem Kr (n:Int):aC (mO n):=by unfold aC mO; omega
theorem ajG (a b:Int):aC (ael a b):=nM _
theorem ajH (a b:Int):aC (aem a b):=nM _
theorem ahr (a b:Int):aC (Gq a b):=Kr _
theorem ahs (a b:Int):aC (Gs a b):=Kr _
theorem zy (n:Int):IntKind.i32.wrap n = wrap32 n:=by rw [IntKind.wrap_i32]; unfold wrap32; rfl
theorem ajI (a b:Int):aC (I4 a b):=by
 show aC (IntKind.i32.wrap _); rw [zy]; exact nM _
theorem am7 (a b:Int):aC (Rz a b):=by
 show aC (IntKind.i32.wrap _); rw [zy]; exact nM _
theorem ajJ (a b:Int):aC (aen a b):=by
 show aC (IntKind.i32.wrap _); rw [zy]; exact nM _
theorem ajK (a b:Int):aC (I5 a b):=by
 show aC (IntKind.i32.wrap _); rw [zy]; exact nM _
theorem abw (a b:Int):aC (yC a b):=nM _
theorem ajL (a b:Int):aC (EC a b):=nM _
theorem abx (a b:Int) (h:aC a):aC (MH a b):=by
 unfold aC MH at *
 have h2:(1:Int)<=2 ^ sh b:=by
  have:=Nat.one_le_two_pow (n:=sh b)
  exact_mod_cast this
 generalize (2:Int) ^ sh b = d at *;constructor
 . rw [Int.le_ediv_iff_mul_le (by omega)]
   have:(2147483648:Int) * 1<=2147483648 * d:=Int.mul_le_mul_of_nonneg_left h2 (by omega);omega
 . exact Int.ediv_le_of_le_mul (by omega) (by
    have:(2147483647:Int) * 1<=2147483647 * d:=Int.mul_le_mul_of_nonneg_left h2 (by omega)
    omega)
theorem in_lt (a b:Int):aC (Bc a b):=by unfold aC Bc; split <;> omega
theorem ajM (a b:Int):aC (tY a b):=by unfold aC tY; split <;> omega
theorem am8 (a b:Int):aC (Bd a b):=by unfold aC Bd; split <;> omega
theorem ajN (a b:Int):aC (IZ a b):=nM _
theorem aht (a b:Int):aC (Gt a b):=Kr _
theorem aby (a:Int):aC (vN a):=Kr _
theorem ajO (a:Int) (h:aC a):aC (yD a):=by have:=aby a; unfold aC yD at *; omega
theorem ahu (a:Int) (h:aC a):aC (wV a):=by unfold aC wV at *; omega
theorem ajP (a:Int):aC (yE a):=by
 have:=Any.bitLen_le32 (a % 4294967296) (by omega) (by omega);unfold aC yE; omega
theorem ajQ (a b:Int) (ha:aC a) (hb:aC b):aC (YT a b):=by unfold aC YT at *; omega
theorem ajR (a b:Int) (ha:aC a) (hb:aC b):aC (YU a b):=by unfold aC YU at *; omega
structure Wd where
 v:Int
 ok:aC v
theorem Wd.fC {a b:Wd} (h:a.v = b.v):a = b:=by cases a; cases b; cases h; rfl
def kW (n:Int):Wd:=⟨wrap32 n,nM n⟩
theorem EJ {n:Int} (h:aC n):(kW n).v = n:=by show wrap32 n = n; unfold aC at h; unfold wrap32; omega
def Df (a b:Wd):Wd:=⟨ael a.v b.v,ajG _ _⟩
def Ae (a b:Wd):Wd:=⟨aem a.v b.v,ajH _ _⟩
def jF (a b:Wd):Wd:=⟨Gq a.v b.v,ahr _ _⟩
def zA (a b:Wd):Wd:=⟨Gs a.v b.v,ahs _ _⟩
def g_ (a b:Wd):Wd:=⟨I4 a.v b.v,ajI _ _⟩
def Hy (a b:Wd):Wd:=⟨Rz a.v b.v,am7 _ _⟩
def Ja (a b:Wd):Wd:=⟨aen a.v b.v,ajJ _ _⟩
def SC (a b:Wd):Wd:=⟨I5 a.v b.v,ajK _ _⟩
def EK (a b:Wd):Wd:=⟨yC a.v b.v,abw _ _⟩
def EL (a b:Wd):Wd:=⟨EC a.v b.v,ajL _ _⟩
def Y_ (a b:Wd):Wd:=⟨MH a.v b.v,abx _ _ a.ok⟩
def MR (a b:Wd):Wd:=⟨Bc a.v b.v,in_lt _ _⟩
def Gw (a b:Wd):Wd:=⟨tY a.v b.v,ajM _ _⟩
def SE (a b:Wd):Wd:=⟨IZ a.v b.v,ajN _ _⟩
def aU (a b:Wd):Wd:=⟨Gt a.v b.v,aht _ _⟩
def MS (a b:Wd):Wd:=⟨YT a.v b.v,ajQ _ _ a.ok b.ok⟩
def MW (a b:Wd):Wd:=⟨YU a.v b.v,ajR _ _ a.ok b.ok⟩
def MX (a:Wd):Wd:=⟨yE a.v,ajP _⟩
def t_ (a:Wd):Wd:=⟨vN a.v,aby _⟩
def qJ (a:Wd):Wd:=⟨yD a.v,ajO _ a.ok⟩
def zB (a:Wd):Wd:=⟨wV a.v,ahu _ a.ok⟩
def EM (m a b:Wd):Wd:=Hy (g_ a m) (SC b m)
def PW (x m:Wd):Wd:=Ae (Ja x m) m
def Bh (a:Wd) (n:Int):Wd:=⟨yC a.v n,abw _ _⟩
def pJ (a:Wd) (n:Int):Wd:=⟨MH a.v n,abx _ _ a.ok⟩
def qV (a b c:Wd):Wd:=Df (Df (SE a a) (SE b b)) (SE c c)
def GI (n low high:Wd):Wd:=Ae (Hy (Gw n low) (Gw high n)) (kW 1)
def kM (x z h:Wd):Wd:=EK (aU x z) h
def iW (x:Wd) (l:List Wd):Wd:=l.foldl zA x
def oh (x:Wd) (l:List Wd):Wd:=l.foldl jF x
def j_ (x:Wd) (l:List Wd):Wd:=l.foldl (fun s y => jF s (aU y y)) (aU x x)
structure Tm where
 a:Nat
 b:Nat
 less:Bool
def pick (l:List Wd) (k:Nat):Wd:=l.getD k (kW 0)
def term (ps qs:List Wd) (t:Tm):Wd:=aU (pick ps t.a) (pick qs t.b)
def apw (ps qs:List Wd) (s:Wd) (t:Tm):Wd:=bif t.less then zA s (term ps qs t) else jF s (term ps qs t)
def apx (ps qs:List Wd) (t:Tm):Wd:=bif t.less then zA (kW 0) (term ps qs t) else term ps qs t
def vC (ps qs:List Wd) (t:Tm) (l:List Tm):Wd:=l.foldl (apw ps qs) (apx ps qs t)
structure Q4 where
 a:Wd
 b:Wd
 c:Wd
 d:Wd
def akW (a b c d e f g h:Wd):Q4:=⟨vC [a,b,c,d] [e,f,g,h] ⟨0,0,false⟩ [⟨1,1,true⟩,⟨2,2,true⟩,⟨3,3,true⟩],vC [a,b,c,d] [e,f,g,h] ⟨0,1,false⟩ [⟨1,0,false⟩,⟨2,3,false⟩,⟨3,2,true⟩],vC [a,b,c,d] [e,f,g,h] ⟨0,2,false⟩ [⟨1,3,true⟩,⟨2,0,false⟩,⟨3,1,false⟩],vC [a,b,c,d] [e,f,g,h] ⟨0,3,false⟩ [⟨1,2,false⟩,⟨2,1,true⟩,⟨3,0,false⟩]⟩
def KF (a b c d e f g:Wd):Q4:=⟨vC [a,b,c,d] [e,f,g] ⟨1,0,true⟩ [⟨2,1,true⟩,⟨3,2,true⟩],vC [a,b,c,d] [e,f,g] ⟨0,0,false⟩ [⟨2,2,false⟩,⟨3,1,true⟩],vC [a,b,c,d] [e,f,g] ⟨0,1,false⟩ [⟨1,2,true⟩,⟨3,0,false⟩],vC [a,b,c,d] [e,f,g] ⟨0,2,false⟩ [⟨1,1,false⟩,⟨2,0,true⟩]⟩
def akX (q0 q1 q2 q3 a0:Wd):Wd:=iW (aU q1 q3) [aU q0 q2,pJ a0 1]
def akY (q0 q1 q2 q3 a1:Wd):Wd:=iW (oh (aU q0 q1) [aU q2 q3]) [pJ a1 1]
def akZ (q1 q2 a2:Wd):Wd:=iW (kW 536870912) [aU q1 q1,aU q2 q2,pJ a2 1]
def ak0 (q0 q1 q2 q3 f0 f1 f2:Wd):Q4 :=
 ⟨pJ (iW (aU q1 f1) [aU q2 f0]) 1,iW (pJ (oh (aU q3 f0) [aU q0 f1]) 1) [aU q1 f2],iW (pJ (iW (aU q3 f1) [aU q0 f0]) 1) [aU q2 f2],pJ (oh (aU q1 f0) [aU q2 f1]) 1⟩
def anl (q0 q1 q2 q3 a0 a1 a2:Wd):Q4:=ak0 q0 q1 q2 q3 (akX q0 q1 q2 q3 a0) (akY q0 q1 q2 q3 a1) (akZ q1 q2 a2)
structure T3 where
 a:Wd
 b:Wd
 c:Wd
def ahW (q0 q1 q2 q3 bx bz f0 f1 f2:Wd):T3 :=
 ⟨iW (oh (aU bx (iW (kW 536870912) [aU q2 q2,aU q3 q3])) [aU bz (iW (aU q1 q3) [aU q0 q2])]) [pJ f0 1],
  iW (oh (aU bx (iW (aU q1 q2) [aU q0 q3])) [aU bz (oh (aU q0 q1) [aU q2 q3])]) [pJ f1 1],
  iW (oh (aU bx (oh (aU q0 q2) [aU q1 q3])) [aU bz (iW (kW 536870912) [aU q1 q1,aU q2 q2])]) [pJ f2 1]⟩
def aeT (u y:Wd):Wd:=jF y (pJ (aU y (zA (kW 1073741824) (Bh (aU u (aU y y)) 2))) 1)
def agC (x:Wd):Wd:=g_ (MX x) (kW 30)
def anm (x:Wd):Wd:=EL (EK x (agC x)) (kW 2)
def ak1 (u:Wd):Wd:=zA (kW 1184766729) (aU (kW 715827883) u)
def agD (u:Wd):Nat->Wd
 | 0 => ak1 u
 | k + 1 => aeT u (agD u k)
def iC (x:Wd):Wd × Wd:=(agD (anm x) 4,EL (agC x) (kW 1))
def agE (x:Wd):Wd:=kM x (iC x).1 (iC x).2
def Bq (x0 x1 x2:Wd):T3:=⟨kM (Bh x0 15) (iC (qV x0 x1 x2)).1 (iC (qV x0 x1 x2)).2,kM (Bh x1 15) (iC (qV x0 x1 x2)).1 (iC (qV x0 x1 x2)).2,kM (Bh x2 15) (iC (qV x0 x1 x2)).1 (iC (qV x0 x1 x2)).2⟩
def ano (x0 x1 x2 x3:Wd):Q4:=⟨kM x0 (iC (jF (j_ x0 [x1,x2,x3]) (kW 1024))).1 (iC (jF (j_ x0 [x1,x2,x3]) (kW 1024))).2,kM x1 (iC (jF (j_ x0 [x1,x2,x3]) (kW 1024))).1 (iC (jF (j_ x0 [x1,x2,x3]) (kW 1024))).2,kM x2 (iC (jF (j_ x0 [x1,x2,x3]) (kW 1024))).1 (iC (jF (j_ x0 [x1,x2,x3]) (kW 1024))).2,kM x3 (iC (jF (j_ x0 [x1,x2,x3]) (kW 1024))).1 (iC (jF (j_ x0 [x1,x2,x3]) (kW 1024))).2⟩
def sumW (a b c e0 e1 e2:Wd):Wd:=pJ (oh (aU a e0) [aU b e1,aU c e2]) 1
def Tt (q0 q1 q2 q3 f0 f1 f2:Wd):Q4:=akW (KF q0 q1 q2 q3 f0 f1 f2).a (KF q0 q1 q2 q3 f0 f1 f2).b (KF q0 q1 q2 q3 f0 f1 f2).c (KF q0 q1 q2 q3 f0 f1 f2).d q0 (t_ q1) (t_ q2) (t_ q3)
def ES (q0 q1 q2 q3 f0 f1 f2:Wd):Wd:=agE (j_ (Tt q0 q1 q2 q3 f0 f1 f2).b [(Tt q0 q1 q2 q3 f0 f1 f2).c])
def ET (q0 q1 q2 q3 f0 f1 f2:Wd):Wd:=(Tt q0 q1 q2 q3 f0 f1 f2).d
def ak2 (q0 q1 q2 q3 f0 f1 f2:Wd):T3:=ahW q0 q1 q2 q3 (ES q0 q1 q2 q3 f0 f1 f2) (ET q0 q1 q2 q3 f0 f1 f2) f0 f1 f2
def ak3 (q0 q1 q2 q3 f0 f1 f2:Wd):Q4:=⟨aU (ES q0 q1 q2 q3 f0 f1 f2) q0,aU (ES q0 q1 q2 q3 f0 f1 f2) q1,aU (ES q0 q1 q2 q3 f0 f1 f2) q2,aU (ES q0 q1 q2 q3 f0 f1 f2) q3⟩
def ak4 (q0 q1 q2 q3 f0 f1 f2:Wd):Q4:=⟨aU (ET q0 q1 q2 q3 f0 f1 f2) q0,aU (ET q0 q1 q2 q3 f0 f1 f2) q1,aU (ET q0 q1 q2 q3 f0 f1 f2) q2,aU (ET q0 q1 q2 q3 f0 f1 f2) q3⟩
def qO (x y:Q4) (e:T3):Q4 :=
 ⟨sumW (t_ y.c) (iW y.b [x.d]) x.c e.a e.b e.c,
  sumW y.d (oh x.c [y.a]) (iW x.d [y.b,y.b]) e.a e.b e.c,
  sumW (t_ (oh x.c [x.c,y.a])) (oh x.b [y.d]) (iW x.a [y.c,y.c]) e.a e.b e.c,
  sumW (iW y.b [x.d,x.d]) (iW y.c [x.a]) x.b e.a e.b e.c⟩
def ak5 (q0 q1 q2 q3 f0 f1 f2:Wd):Q4:=qO (ak3 q0 q1 q2 q3 f0 f1 f2) (ak4 q0 q1 q2 q3 f0 f1 f2) (ak2 q0 q1 q2 q3 f0 f1 f2)
def ak6:List Wd:=[kW 421657428,kW 248918915,kW 131521918,kW 66762579,kW 33510843,kW 16771758,kW 8387925,kW 4194219,kW 2097141,kW 1048575,kW 524288,kW 262144,kW 131072,kW 65536,kW 32768,kW 16384,kW 8192,kW 4096,kW 2048,kW 1024,kW 512,kW 256,kW 128,kW 64,kW 32,kW 16,kW 8,kW 4]
def ab8 (v s:Wd):Wd:=EL (EK v s) (kW 2)
def aeU (i:Nat) (x y c:Wd):T3:=⟨Df x (PW (Y_ y (kW i)) (zB y)),Ae y (PW (Y_ x (kW i)) (zB y)),Df c (PW (ak6.getD i (kW 0)) (zB y))⟩
def PZ (x y:Wd):Nat->T3
 | 0 => ⟨x,y,kW 0⟩
 | i + 1 => aeU i (PZ x y i).a (PZ x y i).b (PZ x y i).c
def ak7 (y x:Wd):T3:=PZ (ab8 (MW (qJ x) (qJ y)) (Ae (MX (MW (qJ x) (qJ y))) (kW 1))) (ab8 (MS (qJ x) (qJ y)) (Ae (MX (MW (qJ x) (qJ y))) (kW 1))) 28
def aeV (y x c:Wd):Wd:=EM (t_ (MR (qJ x) (qJ y))) (Ae (kW 843314857) c) c
def aeW (x b:Wd):Wd:=EM (zB x) (Ae (kW 1686629713) b) b
def ak8 (y x:Wd):Wd:=aeV y x (ak7 y x).c
def ak9 (y x:Wd):Wd:=aeW x (ak8 y x)
def Tv (y x:Wd):Wd:=PW (ak9 y x) (zB y)
def WY (q0 q1 q2 q3:Wd):Wd:=oh (aU q0 q1) [aU q2 q3]
def WZ (q0 q1 q2 q3:Wd):Wd:=iW (kW 536870912) [aU q1 q1,aU q2 q2]
def Na (q0 q1 q2 q3:Wd):Wd:=iW (aU q0 q2) [aU q3 q1]
def ahX (q0 q1 q2 q3:Wd):Wd:=oh (aU q0 q3) [aU q1 q2]
def ahY (q0 q1 q2 q3:Wd):Wd:=iW (kW 536870912) [aU q2 q2,aU q3 q3]
def ahZ (q0 q1 q2 q3:Wd):Wd:=agE (j_ (WZ q0 q1 q2 q3) [WY q0 q1 q2 q3])
def iM (q0 q1 q2 q3:Wd):T3:=⟨Tv (WY q0 q1 q2 q3) (WZ q0 q1 q2 q3),Tv (Na q0 q1 q2 q3) (ahZ q0 q1 q2 q3),Tv (ahX q0 q1 q2 q3) (ahY q0 q1 q2 q3)⟩
def jO (q0 q1 q2 q3:Wd):Wd:=Ae (MR (qJ (Na q0 q1 q2 q3)) (kW 536000000)) (kW 1)
def anp (x0 x1 x2 x3:Wd):Q4:=⟨kM x0 (iC (j_ x0 [x1,x2,x3])).1 (iC (j_ x0 [x1,x2,x3])).2,kM x1 (iC (j_ x0 [x1,x2,x3])).1 (iC (j_ x0 [x1,x2,x3])).2,kM x2 (iC (j_ x0 [x1,x2,x3])).1 (iC (j_ x0 [x1,x2,x3])).2,kM x3 (iC (j_ x0 [x1,x2,x3])).1 (iC (j_ x0 [x1,x2,x3])).2⟩
def anq (x:Wd):Wd:=MS (MW x (kW (-134217728))) (kW 134217728)
def P6 (q r b ga:Wd):Wd:=jF q (anq (zA r (g_ (pJ b 8) ga)))
def xw (a0 a1 a2:Wd):Wd:=GI (qV a0 a1 a2) (kW 16777216) (kW 150994944)
def xA (m0 m1 m2:Wd):Wd:=GI (qV m0 m1 m2) (kW 1000000) (kW 400000000)
def ah0 (q0 q1 q2 q3 a0 a1 a2:Wd):Q4:=anl q0 q1 q2 q3 (Bq a0 a1 a2).a (Bq a0 a1 a2).b (Bq a0 a1 a2).c
def ah1 (q0 q1 q2 q3 m0 m1 m2:Wd):Q4:=ak5 q0 q1 q2 q3 (Bq m0 m1 m2).a (Bq m0 m1 m2).b (Bq m0 m1 m2).c
def ak_ (P N:Q4) (gm:Wd):Q4:=⟨jF P.a (g_ N.a gm),jF P.b (g_ N.b gm),jF P.c (g_ N.c gm),jF P.d (g_ N.d gm)⟩
def ala (D:Q4):Q4:=ano D.a D.b D.c D.d
def alb (q0 q1 q2 q3 g0 g1 g2:Wd):Q4:=KF q0 q1 q2 q3 (Bh g0 12) (Bh g1 12) (Bh g2 12)
def stepOf (q0 q1 q2 q3:Wd) (R E:Q4) (ga:Wd):Q4:=anp (P6 q0 R.a E.a ga) (P6 q1 R.b E.b ga) (P6 q2 R.c E.c ga) (P6 q3 R.d E.d ga)
def ah2 (q0 q1 q2 q3 a0 a1 a2 m0 m1 m2:Wd):Q4:=ala (ak_ (ah0 q0 q1 q2 q3 a0 a1 a2) (ah1 q0 q1 q2 q3 m0 m1 m2) (xA m0 m1 m2))
def W9 (q0 q1 q2 q3 g0 g1 g2 a0 a1 a2 m0 m1 m2:Wd):Q4:=stepOf q0 q1 q2 q3 (alb q0 q1 q2 q3 g0 g1 g2) (ah2 q0 q1 q2 q3 a0 a1 a2 m0 m1 m2) (xw a0 a1 a2)
end

section
open Go.RowKit
theorem acF:BitVec.ofInt 32 (-1) = BitVec.allOnes 32:=by decide
theorem GV:BitVec.ofInt 32 0 = 0#32:=by decide
theorem air {x:Int} (h:aC x):I4 x (-1) = x:=by
 show IntKind.i32.wrap ((BitVec.ofInt 32 x &&& BitVec.ofInt 32 (-1)).toNat:Int) = _;rw [acF,BitVec.and_allOnes,IntKind.wrap_i32,BitVec.toNat_ofInt];unfold aC at h;omega
theorem afm (x:Int):I4 x 0 = 0:=by
 show IntKind.i32.wrap ((BitVec.ofInt 32 x &&& BitVec.ofInt 32 0).toNat:Int) = _;rw [GV,BitVec.and_zero];decide
theorem or_none {x:Int} (h:aC x):Rz x 0 = x:=by
 show IntKind.i32.wrap ((BitVec.ofInt 32 x ||| BitVec.ofInt 32 0).toNat:Int) = _;rw [GV,BitVec.or_zero,IntKind.wrap_i32,BitVec.toNat_ofInt];unfold aC at h;omega
theorem none_or {x:Int} (h:aC x):Rz 0 x = x:=by
 show IntKind.i32.wrap ((BitVec.ofInt 32 0 ||| BitVec.ofInt 32 x).toNat:Int) = _;rw [GV,BitVec.zero_or,IntKind.wrap_i32,BitVec.toNat_ofInt];unfold aC at h;omega
theorem afn {x:Int} (h:aC x):I5 x 0 = x:=by
 show IntKind.i32.wrap ((BitVec.ofInt 32 x &&& ~~~BitVec.ofInt 32 0).toNat:Int) = _;rw [GV,BitVec.not_zero,BitVec.and_allOnes,IntKind.wrap_i32,BitVec.toNat_ofInt];unfold aC at h;omega
theorem ais {x:Int} (h:aC x):I5 x (-1) = 0:=by
 show IntKind.i32.wrap ((BitVec.ofInt 32 x &&& ~~~BitVec.ofInt 32 (-1)).toNat:Int) = _;rw [acF,BitVec.not_allOnes,BitVec.and_zero];decide
theorem ait (a b:Wd):EM (kW (-1)) a b = a:=Wd.fC (by
 show Rz (I4 a.v (kW (-1)).v) (I5 b.v (kW (-1)).v) = a.v
 rw [EJ (by decide),air a.ok,ais b.ok,or_none a.ok])
theorem afo (a b:Wd):EM (kW 0) a b = b:=Wd.fC (by
 show Rz (I4 a.v (kW 0).v) (I5 b.v (kW 0).v) = b.v
 rw [EJ (by decide),afm,afn b.ok,none_or b.ok])
end

section
open Go.RowKit Go.Deep
def sqP (x:Int):Int:=wrap32 (x * x) % 4294967296
def XE (a b c:Int):Int:=wrap32 (sqP a + sqP b + sqP c)
def inside (lo hi a b c:Int):Bool:=decide (lo<=XE a b c % 4294967296) && decide (XE a b c % 4294967296<=hi)
def ZJ (m:Wd) (f:Int):Int:=if m.v = 0 then f else 0
def acN (ga gm:Wd):Int:=ZJ ga 2 + ZJ gm 4
def pO (a b c d:Wd):Bool:=(jO a b c d).v != 0
end
end Go.Proofs.YtbhikopphamgjaaGreatDoor
