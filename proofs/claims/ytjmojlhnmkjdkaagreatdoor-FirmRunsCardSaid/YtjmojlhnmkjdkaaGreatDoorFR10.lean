/- Texts of this claim, side by side. -/
import Derived.Test.YtjmojlhnmkjdkaaGreatDoorFR1
import Derived.Test.YtjmojlhnmkjdkaaGreatDoorShelfB
set_option linter.unusedVariables false
set_option maxRecDepth 100000
set_option maxHeartbeats 8000000
namespace Go.Proofs.YtjmojlhnmkjdkaaGreatDoor
section
open Go.RowKit Go.Deep
def Au (a:Int):Int:=32 - (Lib.bitLen (a % 4294967296).toNat:Int)
def Aw (a b:Int):Int:=wrap32 (a * b % 4294967296)
def Jb (a b:Int):Int:=jY (a * b / 1073741824+a * b / 536870912 % 2)
theorem abO (a:Int) (w:World) (ha:-2147483648<=a/\a<=2147483647) :
 Calls Tryz.prog 340 #[.int .i32 a] w fun e w'=>e=.returned (.int .i32 (Ar a))/\ah w w' []:=by
 obtain ⟨n,hn⟩:∃ n,n=yu a:=⟨_,rfl⟩
 have e:Ar a=max a n:=by unfold Ar; rw [hn]
 rw [e];have HN:=hide hn;clear hn e;go_enter Tryz.func340,Tryz.ntmps340
 go_wp2_with fail
 refine (Ns a _ ha).mono ?_;rintro e w1 ⟨rfl,hc⟩;rw [<- HN.out];have HC:=hide hc;clear hc HN;go_wp2
 all_goals
  go_ret;exact ⟨by first | (rw [show max a n=if a < n then n else a by split<;>omega]; rfl) | (rw [show max a n=n by omega]; rfl) | (rw [show max a n=a by omega]; rfl),HC.out⟩
theorem aeF (a:Int) (w:World) (ha:-2147483648<=a/\a<=2147483647) :
 Calls Tryz.prog 338 #[.int .i32 a] w fun e w'=>e=.returned (.int .i32 (Au a))/\w=w':=by
 have l:=Any.bitLen_le32 (a % 4294967296) (by omega) (by omega);have hw:wrap32 (32 - (Lib.bitLen (a % 4294967296).toNat:Int))=Au a:=by unfold Au wrap32; omega
 have HW:=hide hw;clear hw;go_enter Tryz.func338,Tryz.ntmps338
 go_wp2_with fail
 refine (Tryz.bits_LeadingZeros32 _ _ (by omega) (by omega)).mono ?_;rintro e w1 ⟨rfl,rfl⟩;clear l;generalize (32 - (Lib.bitLen (a % 4294967296).toNat:Int))=n at *;go_wp2;go_ret;exact ⟨by rw [<- HW.out]; rfl,rfl⟩
theorem abP (a b:Int) (w:World) (ha:-2147483648<=a/\a<=2147483647) (hb:-2147483648<=b/\b<=2147483647) :
 Calls Tryz.prog 294 #[.int .i32 a,.int .i32 b] w fun e w'=>e=.returned (.int .i32 (Aw a b))/\ah w w' []:=by
 have e:Aw a b=wrap32 (wrap64 (a * b) % 4294967296):=by
  unfold Aw;generalize a * b=p;unfold wrap64; congr 1; omega
 rw [e];clear e;go_enter Tryz.func294,Tryz.ntmps294
 go_wp2;go_ret;exact ⟨rfl,(ah.refl w []).alloc _⟩
theorem Yu (x:Int):bits BinOp.and IntKind.i64 x 1=x % 2:=by
 show IntKind.i64.wrap ((BitVec.ofInt 64 x &&& BitVec.ofInt 64 1).toNat:Int)=_;have h2:(BitVec.ofInt 64 1).toNat=1:=by decide
 rw [BitVec.toNat_and,h2,Nat.and_one_is_mod,IntKind.wrap_i64,BitVec.toNat_ofInt];omega
theorem U8 (w:World):Calls Tryz.prog 317 #[.int .i64 30] w fun e w'=>e=.returned (.agg #[.func (.func 336) #[] #[.pointer (some ⟨w.heap.size,0,none⟩)]])/\ah w w' []/\w'.cell? ⟨w.heap.size,0,none⟩=some (.int .i64 30)/\w.heap.size < w'.heap.size:=by
 have hc:=(aC.new w 3 [.int .i64 30])
 have hz:=aC.new (w.alloc (.cells #[.int .i64 30] 3)) 370 [(.func (.func 336) #[] #[.pointer (some ⟨w.heap.size,0,none⟩)])];have h1:=hc.alloc (.cells #[(.func (.func 336) #[] #[.pointer (some ⟨w.heap.size,0,none⟩)])] 370);have c1:=h1.cell' (i:=0) rfl;have c2:=hz.cell' (i:=0) rfl;rw [size_alloc] at c2;have HC:=hide (((ah.refl w []).alloc (.cells #[.int .i64 30] 3)).alloc (.cells #[(.func (.func 336) #[] #[.pointer (some ⟨w.heap.size,0,none⟩)])] 370));clear hc hz h1;go_enter Tryz.func317,Tryz.ntmps317
 go_wp2;refine bodyPost_ret (v:=.agg #[.func (.func 336) #[] #[.pointer (some ⟨w.heap.size,0,none⟩)]]) ?_ rfl ⟨rfl,HC.out,c1,by simp; omega⟩;simp [results,Tryz.f317,go_sem,c2]
theorem Sj (x:Int) (p:Addr) (w:World) (hp:w.cell? p=some (.int .i64 30)) (hx:-4611686018427387904<=x/\x<=4611686018427387904):Calls Tryz.prog 336 #[.int .i64 x,.pointer (some p)] w fun e w'=>e=.returned (.int .i32 (jY (x / 1073741824+x / 536870912 % 2)))/\w=w':=by
 have hb:=Yu (x / 536870912);have hw:wrap64 (x / 1073741824+x / 536870912 % 2)=x / 1073741824+x / 536870912 % 2:=by unfold wrap64; omega
 go_enter Tryz.func336,Tryz.ntmps336
 go_wp2;go_ret;exact ⟨by simp only [jY]; rfl,rfl⟩
theorem prod_bound {a b:Int} (ha:-2147483648<=a/\a<=2147483647) (hb:-2147483648<=b/\b<=2147483647):-4611686018427387904<=a * b/\a * b<=4611686018427387904:=by
 have h:(a * b).natAbs<=2147483648 * 2147483648:=by
  rw [Int.natAbs_mul]; exact Nat.mul_le_mul (by omega) (by omega)
 omega
theorem KQ (a b:Int) (p:Addr) (w:World) (ha:-2147483648<=a/\a<=2147483647) (hb:-2147483648<=b/\b<=2147483647) (hp:w.cell? p=some (.int .i64 30)) :
 Calls Tryz.prog 315 #[.agg #[.func (.func 336) #[] #[.pointer (some p)]],.int .i32 a,.int .i32 b] w fun e w'=>e=.returned (.int .i32 (Jb a b))/\ah w w' []:=by
 have hpb:=prod_bound ha hb;have hm:wrap64 (a * b)=a * b:=by generalize a * b=p at *; unfold wrap64; omega
 have hp1:=fun o=>((ah.refl w []).alloc o).cell hp (by simp);go_enter Tryz.func315,Tryz.ntmps315
 go_wp2_with fail
 refine (Sj _ _ _ (hp1 _) hpb).mono ?_;rintro e w1 ⟨rfl,rfl⟩;go_wp2;go_ret;exact ⟨rfl,(ah.refl w []).alloc _⟩
theorem abQ (a b:Int) (w:World) (ha:-2147483648<=a/\a<=2147483647) (hb:-2147483648<=b/\b<=2147483647) :
 Calls Tryz.prog 296 #[.int .i32 a,.int .i32 b] w fun e w'=>e=.returned (.int .i32 (Jb a b))/\ah w w' []:=by
 go_enter Tryz.func296,Tryz.ntmps296
 go_wp2_with fail
 refine (U8 _).mono ?_;rintro e w1 ⟨rfl,hc,hp,_⟩;have HC:=hide hc;clear hc;go_wp2_with fail
 refine (KQ a b _ _ ha hb hp).mono ?_;rintro e w2 ⟨rfl,hc⟩;have HC2:=hide hc;clear hc;go_wp2;go_ret;exact ⟨rfl,HC.out.trans HC2.out (by simp)⟩
def PG (a b:Int):Int:=wrap32 (a+b)
def rX (a b:Int):Int:=wrap32 (a - b)
def tY (a b:Int):Int:=bits BinOp.and IntKind.i32 a b
def BP (a b:Int):Int:=bits BinOp.or IntKind.i32 a b
def KT (a b:Int):Int:=bits BinOp.xor IntKind.i32 a b
def KU (a b:Int):Int:=bits BinOp.andNot IntKind.i32 a b
abbrev aB (a:Int):Prop:=-2147483648<=a/\a<=2147483647
theorem aoz (a b:Int) (w:World) (ha:aB a) (hb:aB b):Calls Tryz.prog 204 #[.int .i64 1,.int .i32 a,.int .i32 b] w fun e w'=>e=.returned (.tuple #[.int .i32 (PG a b),.bool true])/\ah w w' []:=by
 have HC:=hide (ah.refl w []);go_enter Tryz.func204,Tryz.ntmps204
 go_wp2;go_ret2;exact ⟨rfl,HC.out⟩
theorem aoA (a b:Int) (w:World) (ha:aB a) (hb:aB b):Calls Tryz.prog 204 #[.int .i64 2,.int .i32 a,.int .i32 b] w fun e w'=>e=.returned (.tuple #[.int .i32 (rX a b),.bool true])/\ah w w' []:=by
 have HC:=hide (ah.refl w []);go_enter Tryz.func204,Tryz.ntmps204
 go_wp2;go_ret2;exact ⟨rfl,HC.out⟩
theorem al7 (a b:Int) (w:World) (ha:aB a) (hb:aB b):Calls Tryz.prog 204 #[.int .i64 3,.int .i32 a,.int .i32 b] w fun e w'=>e=.returned (.tuple #[.int .i32 (I_ a b),.bool true])/\ah w w' []:=by
 go_enter Tryz.func204,Tryz.ntmps204
 go_wp2_with fail
 refine (abM a b _ ha hb).mono ?_;rintro e w1 ⟨rfl,hc⟩;have HC:=hide hc;clear hc;go_wp2;go_ret2;exact ⟨rfl,HC.out⟩
theorem al8 (a b:Int) (w:World) (ha:aB a) (hb:aB b):Calls Tryz.prog 204 #[.int .i64 4,.int .i32 a,.int .i32 b] w fun e w'=>e=.returned (.tuple #[.int .i32 (Ja a b),.bool true])/\ah w w' []:=by
 go_enter Tryz.func204,Tryz.ntmps204
 go_wp2_with fail
 refine (abN a b _ ha hb).mono ?_;rintro e w1 ⟨rfl,hc⟩;have HC:=hide hc;clear hc;go_wp2;go_ret2;exact ⟨rfl,HC.out⟩
theorem aoB (a b:Int) (w:World) (ha:aB a) (hb:aB b):Calls Tryz.prog 204 #[.int .i64 5,.int .i32 a,.int .i32 b] w fun e w'=>e=.returned (.tuple #[.int .i32 (tY a b),.bool true])/\ah w w' []:=by
 have HC:=hide (ah.refl w []);go_enter Tryz.func204,Tryz.ntmps204
 go_wp2;go_ret2;exact ⟨rfl,HC.out⟩
theorem as3 (a b:Int) (w:World) (ha:aB a) (hb:aB b):Calls Tryz.prog 204 #[.int .i64 6,.int .i32 a,.int .i32 b] w fun e w'=>e=.returned (.tuple #[.int .i32 (BP a b),.bool true])/\ah w w' []:=by
 have HC:=hide (ah.refl w []);go_enter Tryz.func204,Tryz.ntmps204
 go_wp2;go_ret2;exact ⟨rfl,HC.out⟩
theorem aoC (a b:Int) (w:World) (ha:aB a) (hb:aB b):Calls Tryz.prog 204 #[.int .i64 7,.int .i32 a,.int .i32 b] w fun e w'=>e=.returned (.tuple #[.int .i32 (KT a b),.bool true])/\ah w w' []:=by
 have HC:=hide (ah.refl w []);go_enter Tryz.func204,Tryz.ntmps204
 go_wp2;go_ret2;exact ⟨rfl,HC.out⟩
theorem aoD (a b:Int) (w:World) (ha:aB a) (hb:aB b):Calls Tryz.prog 204 #[.int .i64 8,.int .i32 a,.int .i32 b] w fun e w'=>e=.returned (.tuple #[.int .i32 (KU a b),.bool true])/\ah w w' []:=by
 have HC:=hide (ah.refl w []);go_enter Tryz.func204,Tryz.ntmps204
 go_wp2;go_ret2;exact ⟨rfl,HC.out⟩
theorem aoE (a b:Int) (w:World) (ha:aB a) (hb:aB b):Calls Tryz.prog 204 #[.int .i64 9,.int .i32 a,.int .i32 b] w fun e w'=>e=.returned (.tuple #[.int .i32 (tX a b),.bool true])/\ah w w' []:=by
 go_enter Tryz.func204,Tryz.ntmps204
 go_wp2_with fail
 refine (aeC a b _).mono ?_;rintro e w1 ⟨rfl,hc⟩;have HC:=hide hc;clear hc;go_wp2;go_ret2;exact ⟨rfl,HC.out⟩
theorem aoF (a b:Int) (w:World) (ha:aB a) (hb:aB b):Calls Tryz.prog 204 #[.int .i64 10,.int .i32 a,.int .i32 b] w fun e w'=>e=.returned (.tuple #[.int .i32 (wu a b),.bool true])/\ah w w' []:=by
 go_enter Tryz.func204,Tryz.ntmps204
 go_wp2_with fail
 refine (aeD a b _).mono ?_;rintro e w1 ⟨rfl,hc⟩;have HC:=hide hc;clear hc;go_wp2;go_ret2;exact ⟨rfl,HC.out⟩
theorem aoG (a b:Int) (w:World) (ha:aB a) (hb:aB b):Calls Tryz.prog 204 #[.int .i64 11,.int .i32 a,.int .i32 b] w fun e w'=>e=.returned (.tuple #[.int .i32 (wo a b),.bool true])/\ah w w' []:=by
 go_enter Tryz.func204,Tryz.ntmps204
 go_wp2_with fail
 refine (aeB a b _).mono ?_;rintro e w1 ⟨rfl,hc⟩;have HC:=hide hc;clear hc;go_wp2;go_ret2;exact ⟨rfl,HC.out⟩
theorem aoH (a b:Int) (w:World) (ha:aB a) (hb:aB b):Calls Tryz.prog 204 #[.int .i64 13,.int .i32 a,.int .i32 b] w fun e w'=>e=.returned (.tuple #[.int .i32 (Aq a b),.bool true])/\ah w w' []:=by
 have HC:=hide (ah.refl w []);go_enter Tryz.func204,Tryz.ntmps204
 go_wp2_with fail
 refine (abI a b _).mono ?_;rintro e w1 ⟨rfl,rfl⟩;go_wp2;go_ret2;exact ⟨rfl,HC.out⟩
theorem al9 (a b:Int) (w:World) (ha:aB a) (hb:aB b):Calls Tryz.prog 204 #[.int .i64 14,.int .i32 a,.int .i32 b] w fun e w'=>e=.returned (.tuple #[.int .i32 (mX a b),.bool true])/\ah w w' []:=by
 have HC:=hide (ah.refl w []);go_enter Tryz.func204,Tryz.ntmps204
 go_wp2_with fail
 refine (Yt a b _).mono ?_;rintro e w1 ⟨rfl,rfl⟩;go_wp2;go_ret2;exact ⟨rfl,HC.out⟩
theorem aoI (a b:Int) (w:World) (ha:aB a) (hb:aB b):Calls Tryz.prog 204 #[.int .i64 15,.int .i32 a,.int .i32 b] w fun e w'=>e=.returned (.tuple #[.int .i32 (DT a b),.bool true])/\ah w w' []:=by
 have HC:=hide (ah.refl w []);go_enter Tryz.func204,Tryz.ntmps204
 go_wp2_with fail
 refine (abJ a b _).mono ?_;rintro e w1 ⟨rfl,rfl⟩;go_wp2;go_ret2;exact ⟨rfl,HC.out⟩
theorem Yv (a b:Int) (w:World) (ha:aB a) (hb:aB b):Calls Tryz.prog 261 #[.int .i64 18,.int .i32 a,.int .i32 b] w fun e w'=>e=.returned (.tuple #[.int .i32 (Aw a b),.bool true])/\ah w w' []:=by
 go_enter Tryz.func261,Tryz.ntmps261
 go_wp2_with fail
 refine (abP a b _ ha hb).mono ?_;rintro e w1 ⟨rfl,hc⟩;have HC:=hide hc;clear hc;go_wp2;go_ret2;exact ⟨rfl,HC.out⟩
theorem aoJ (a b:Int) (w:World) (ha:aB a) (hb:aB b):Calls Tryz.prog 204 #[.int .i64 18,.int .i32 a,.int .i32 b] w fun e w'=>e=.returned (.tuple #[.int .i32 (Aw a b),.bool true])/\ah w w' []:=by
 go_enter Tryz.func204,Tryz.ntmps204
 go_wp2_with fail
 refine (Yv a b _ ha hb).mono ?_;rintro e w1 ⟨rfl,hc⟩;have HC:=hide hc;clear hc;go_wp2;go_ret2;exact ⟨rfl,HC.out⟩
theorem U9 (a b:Int) (w:World) (ha:aB a) (hb:aB b):Calls Tryz.prog 261 #[.int .i64 20,.int .i32 a,.int .i32 b] w fun e w'=>e=.returned (.tuple #[.int .i32 (Jb a b),.bool true])/\ah w w' []:=by
 go_enter Tryz.func261,Tryz.ntmps261
 go_wp2_with fail
 refine (abQ a b _ ha hb).mono ?_;rintro e w1 ⟨rfl,hc⟩;have HC:=hide hc;clear hc;go_wp2;go_ret2;exact ⟨rfl,HC.out⟩
theorem al_ (a b:Int) (w:World) (ha:aB a) (hb:aB b):Calls Tryz.prog 204 #[.int .i64 20,.int .i32 a,.int .i32 b] w fun e w'=>e=.returned (.tuple #[.int .i32 (Jb a b),.bool true])/\ah w w' []:=by
 go_enter Tryz.func204,Tryz.ntmps204
 go_wp2_with fail
 refine (U9 a b _ ha hb).mono ?_;rintro e w1 ⟨rfl,hc⟩;have HC:=hide hc;clear hc;go_wp2;go_ret2;exact ⟨rfl,HC.out⟩
theorem abR (a:Int) (w:World) (ha:aB a):Calls Tryz.prog 319 #[.int .i32 a] w fun e w'=>e=.returned (.int .i32 (Au a))/\ah w w' []:=by
 have HC:=hide (ah.refl w []);go_enter Tryz.func319,Tryz.ntmps319
 go_wp2_with fail
 refine (aeF a _ ha).mono ?_;rintro e w1 ⟨rfl,rfl⟩;go_wp2;go_ret;exact ⟨rfl,HC.out⟩
theorem aeG (a:Int) (w:World) (ha:aB a):Calls Tryz.prog 318 #[.func (.func 319) #[] #[],.int .i32 a] w fun e w'=>e=.returned (.tuple #[.int .i32 (Au a),.bool true])/\ah w w' []:=by
 go_enter Tryz.func318,Tryz.ntmps318
 go_wp2_with fail
 refine (abR a _ ha).mono ?_;rintro e w1 ⟨rfl,hc⟩;have HC:=hide hc;clear hc;go_wp2;go_ret2;exact ⟨rfl,HC.out⟩
theorem aeH (a:Int) (w:World) (ha:aB a):Calls Tryz.prog 298 #[.int .i64 24,.int .i32 a] w fun e w'=>e=.returned (.tuple #[.int .i32 (Au a),.bool true])/\ah w w' []:=by
 go_enter Tryz.func298,Tryz.ntmps298
 go_wp2_with fail
 refine (aeG a _ ha).mono ?_;rintro e w1 ⟨rfl,hc⟩;have HC:=hide hc;clear hc;go_wp2;go_ret2;exact ⟨rfl,HC.out⟩
theorem Yw (a b:Int) (w:World) (ha:aB a) (hb:aB b):Calls Tryz.prog 261 #[.int .i64 24,.int .i32 a,.int .i32 b] w fun e w'=>e=.returned (.tuple #[.int .i32 (Au a),.bool true])/\ah w w' []:=by
 go_enter Tryz.func261,Tryz.ntmps261
 go_wp2_with fail
 refine (aeH a _ ha).mono ?_;rintro e w1 ⟨rfl,hc⟩;have HC:=hide hc;clear hc;go_wp2;go_ret2;exact ⟨rfl,HC.out⟩
theorem aoK (a b:Int) (w:World) (ha:aB a) (hb:aB b):Calls Tryz.prog 204 #[.int .i64 24,.int .i32 a,.int .i32 b] w fun e w'=>e=.returned (.tuple #[.int .i32 (Au a),.bool true])/\ah w w' []:=by
 go_enter Tryz.func204,Tryz.ntmps204
 go_wp2_with fail
 refine (Yw a b _ ha hb).mono ?_;rintro e w1 ⟨rfl,hc⟩;have HC:=hide hc;clear hc;go_wp2;go_ret2;exact ⟨rfl,HC.out⟩
theorem abS (a:Int) (w:World) (ha:aB a):Calls Tryz.prog 320 #[.int .i32 a] w fun e w'=>e=.returned (.int .i32 (yu a))/\ah w w' []:=by
 go_enter Tryz.func320,Tryz.ntmps320
 go_wp2_with fail
 refine (Ns a _ ha).mono ?_;rintro e w1 ⟨rfl,hc⟩;have HC:=hide hc;clear hc;go_wp2;go_ret;exact ⟨rfl,HC.out⟩
theorem aeI (a:Int) (w:World) (ha:aB a):Calls Tryz.prog 318 #[.func (.func 320) #[] #[],.int .i32 a] w fun e w'=>e=.returned (.tuple #[.int .i32 (yu a),.bool true])/\ah w w' []:=by
 go_enter Tryz.func318,Tryz.ntmps318
 go_wp2_with fail
 refine (abS a _ ha).mono ?_;rintro e w1 ⟨rfl,hc⟩;have HC:=hide hc;clear hc;go_wp2;go_ret2;exact ⟨rfl,HC.out⟩
theorem aeJ (a:Int) (w:World) (ha:aB a):Calls Tryz.prog 298 #[.int .i64 25,.int .i32 a] w fun e w'=>e=.returned (.tuple #[.int .i32 (yu a),.bool true])/\ah w w' []:=by
 go_enter Tryz.func298,Tryz.ntmps298
 go_wp2_with fail
 refine (aeI a _ ha).mono ?_;rintro e w1 ⟨rfl,hc⟩;have HC:=hide hc;clear hc;go_wp2;go_ret2;exact ⟨rfl,HC.out⟩
theorem Yx (a b:Int) (w:World) (ha:aB a) (hb:aB b):Calls Tryz.prog 261 #[.int .i64 25,.int .i32 a,.int .i32 b] w fun e w'=>e=.returned (.tuple #[.int .i32 (yu a),.bool true])/\ah w w' []:=by
 go_enter Tryz.func261,Tryz.ntmps261
 go_wp2_with fail
 refine (aeJ a _ ha).mono ?_;rintro e w1 ⟨rfl,hc⟩;have HC:=hide hc;clear hc;go_wp2;go_ret2;exact ⟨rfl,HC.out⟩
theorem aoL (a b:Int) (w:World) (ha:aB a) (hb:aB b):Calls Tryz.prog 204 #[.int .i64 25,.int .i32 a,.int .i32 b] w fun e w'=>e=.returned (.tuple #[.int .i32 (yu a),.bool true])/\ah w w' []:=by
 go_enter Tryz.func204,Tryz.ntmps204
 go_wp2_with fail
 refine (Yx a b _ ha hb).mono ?_;rintro e w1 ⟨rfl,hc⟩;have HC:=hide hc;clear hc;go_wp2;go_ret2;exact ⟨rfl,HC.out⟩
theorem abT (a:Int) (w:World) (ha:aB a):Calls Tryz.prog 321 #[.int .i32 a] w fun e w'=>e=.returned (.int .i32 (Ar a))/\ah w w' []:=by
 go_enter Tryz.func321,Tryz.ntmps321
 go_wp2_with fail
 refine (abO a _ ha).mono ?_;rintro e w1 ⟨rfl,hc⟩;have HC:=hide hc;clear hc;go_wp2;go_ret;exact ⟨rfl,HC.out⟩
theorem aeK (a:Int) (w:World) (ha:aB a):Calls Tryz.prog 318 #[.func (.func 321) #[] #[],.int .i32 a] w fun e w'=>e=.returned (.tuple #[.int .i32 (Ar a),.bool true])/\ah w w' []:=by
 go_enter Tryz.func318,Tryz.ntmps318
 go_wp2_with fail
 refine (abT a _ ha).mono ?_;rintro e w1 ⟨rfl,hc⟩;have HC:=hide hc;clear hc;go_wp2;go_ret2;exact ⟨rfl,HC.out⟩
theorem aeL (a:Int) (w:World) (ha:aB a):Calls Tryz.prog 298 #[.int .i64 26,.int .i32 a] w fun e w'=>e=.returned (.tuple #[.int .i32 (Ar a),.bool true])/\ah w w' []:=by
 go_enter Tryz.func298,Tryz.ntmps298
 go_wp2_with fail
 refine (aeK a _ ha).mono ?_;rintro e w1 ⟨rfl,hc⟩;have HC:=hide hc;clear hc;go_wp2;go_ret2;exact ⟨rfl,HC.out⟩
theorem Yy (a b:Int) (w:World) (ha:aB a) (hb:aB b):Calls Tryz.prog 261 #[.int .i64 26,.int .i32 a,.int .i32 b] w fun e w'=>e=.returned (.tuple #[.int .i32 (Ar a),.bool true])/\ah w w' []:=by
 go_enter Tryz.func261,Tryz.ntmps261
 go_wp2_with fail
 refine (aeL a _ ha).mono ?_;rintro e w1 ⟨rfl,hc⟩;have HC:=hide hc;clear hc;go_wp2;go_ret2;exact ⟨rfl,HC.out⟩
theorem aoM (a b:Int) (w:World) (ha:aB a) (hb:aB b):Calls Tryz.prog 204 #[.int .i64 26,.int .i32 a,.int .i32 b] w fun e w'=>e=.returned (.tuple #[.int .i32 (Ar a),.bool true])/\ah w w' []:=by
 go_enter Tryz.func204,Tryz.ntmps204
 go_wp2_with fail
 refine (Yy a b _ ha hb).mono ?_;rintro e w1 ⟨rfl,hc⟩;have HC:=hide hc;clear hc;go_wp2;go_ret2;exact ⟨rfl,HC.out⟩
theorem Yz (a:Int) (w:World) (ha:aB a):Calls Tryz.prog 323 #[.int .i32 a] w fun e w'=>e=.returned (.int .i32 (zo a))/\ah w w' []:=by
 have HC:=hide (ah.refl w []);go_enter Tryz.func323,Tryz.ntmps323
 go_wp2_with fail
 refine (abK a _).mono ?_;rintro e w1 ⟨rfl,rfl⟩;go_wp2;go_ret;exact ⟨rfl,HC.out⟩
theorem abU (a:Int) (w:World) (ha:aB a):Calls Tryz.prog 318 #[.func (.func 323) #[] #[],.int .i32 a] w fun e w'=>e=.returned (.tuple #[.int .i32 (zo a),.bool true])/\ah w w' []:=by
 go_enter Tryz.func318,Tryz.ntmps318
 go_wp2_with fail
 refine (Yz a _ ha).mono ?_;rintro e w1 ⟨rfl,hc⟩;have HC:=hide hc;clear hc;go_wp2;go_ret2;exact ⟨rfl,HC.out⟩
theorem abV (a:Int) (w:World) (ha:aB a):Calls Tryz.prog 298 #[.int .i64 28,.int .i32 a] w fun e w'=>e=.returned (.tuple #[.int .i32 (zo a),.bool true])/\ah w w' []:=by
 go_enter Tryz.func298,Tryz.ntmps298
 go_wp2_with fail
 refine (abU a _ ha).mono ?_;rintro e w1 ⟨rfl,hc⟩;have HC:=hide hc;clear hc;go_wp2;go_ret2;exact ⟨rfl,HC.out⟩
theorem U_ (a b:Int) (w:World) (ha:aB a) (hb:aB b):Calls Tryz.prog 261 #[.int .i64 28,.int .i32 a,.int .i32 b] w fun e w'=>e=.returned (.tuple #[.int .i32 (zo a),.bool true])/\ah w w' []:=by
 go_enter Tryz.func261,Tryz.ntmps261
 go_wp2_with fail
 refine (abV a _ ha).mono ?_;rintro e w1 ⟨rfl,hc⟩;have HC:=hide hc;clear hc;go_wp2;go_ret2;exact ⟨rfl,HC.out⟩
theorem ama (a b:Int) (w:World) (ha:aB a) (hb:aB b):Calls Tryz.prog 204 #[.int .i64 28,.int .i32 a,.int .i32 b] w fun e w'=>e=.returned (.tuple #[.int .i32 (zo a),.bool true])/\ah w w' []:=by
 go_enter Tryz.func204,Tryz.ntmps204
 go_wp2_with fail
 refine (U_ a b _ ha hb).mono ?_;rintro e w1 ⟨rfl,hc⟩;have HC:=hide hc;clear hc;go_wp2;go_ret2;exact ⟨rfl,HC.out⟩
def EU (a b:Int):Int:=min a b
def EW (a b:Int):Int:=max a b
theorem aoN (a b:Int) (w:World) (ha:aB a) (hb:aB b):Calls Tryz.prog 204 #[.int .i64 16,.int .i32 a,.int .i32 b] w fun e w'=>e=.returned (.tuple #[.int .i32 (EU a b),.bool true])/\ah w w' []:=by
 have HC:=hide (ah.refl w []);go_enter Tryz.func204,Tryz.ntmps204
 go_wp2;go_ret2;exact ⟨rfl,HC.out⟩
theorem aoO (a b:Int) (w:World) (ha:aB a) (hb:aB b):Calls Tryz.prog 204 #[.int .i64 17,.int .i32 a,.int .i32 b] w fun e w'=>e=.returned (.tuple #[.int .i32 (EW a b),.bool true])/\ah w w' []:=by
 have HC:=hide (ah.refl w []);go_enter Tryz.func204,Tryz.ntmps204
 go_wp2;go_ret2;exact ⟨rfl,HC.out⟩
theorem pI (n:Int):aB (wrap32 n):=by unfold aB wrap32; omega
theorem Hf (n:Int):aB (jY n):=by unfold aB jY; omega
theorem aoP (a b:Int):aB (PG a b):=pI _
theorem aoQ (a b:Int):aB (rX a b):=pI _
theorem amb (a b:Int):aB (I_ a b):=Hf _
theorem amc (a b:Int):aB (Ja a b):=Hf _
theorem BQ (n:Int):IntKind.i32.wrap n=wrap32 n:=by rw [IntKind.wrap_i32]; unfold wrap32; rfl
theorem aoR (a b:Int):aB (tY a b):=by
 show aB (IntKind.i32.wrap _); rw [BQ]; exact pI _
theorem as4 (a b:Int):aB (BP a b):=by
 show aB (IntKind.i32.wrap _); rw [BQ]; exact pI _
theorem aoS (a b:Int):aB (KT a b):=by
 show aB (IntKind.i32.wrap _); rw [BQ]; exact pI _
theorem aoT (a b:Int):aB (KU a b):=by
 show aB (IntKind.i32.wrap _); rw [BQ]; exact pI _
theorem aeM (a b:Int):aB (tX a b):=pI _
theorem aoU (a b:Int):aB (wu a b):=pI _
theorem Va (a b:Int) (h:aB a):aB (wo a b):=by
 unfold aB wo at *
 have h2:(1:Int)<=2 ^ sh b:=by
  have:=Nat.one_le_two_pow (n:=sh b)
  exact_mod_cast this
 generalize (2:Int) ^ sh b=d at *;constructor
 . rw [Int.le_ediv_iff_mul_le (by omega)]
   have:(2147483648:Int) * 1<=2147483648 * d:=Int.mul_le_mul_of_nonneg_left h2 (by omega);omega
 . exact Int.ediv_le_of_le_mul (by omega) (by
    have:(2147483647:Int) * 1<=2147483647 * d:=Int.mul_le_mul_of_nonneg_left h2 (by omega)
    omega)
theorem in_lt (a b:Int):aB (Aq a b):=by unfold aB Aq; split<;>omega
theorem aoV (a b:Int):aB (mX a b):=by unfold aB mX; split<;>omega
theorem as5 (a b:Int):aB (DT a b):=by unfold aB DT; split<;>omega
theorem aoW (a b:Int):aB (Aw a b):=pI _
theorem amd (a b:Int):aB (Jb a b):=Hf _
theorem aeN (a:Int):aB (yu a):=Hf _
theorem aoX (a:Int) (h:aB a):aB (Ar a):=by have:=aeN a; unfold aB Ar at *; omega
theorem ame (a:Int) (h:aB a):aB (zo a):=by unfold aB zo at *; omega
theorem aoY (a:Int):aB (Au a):=by
 have:=Any.bitLen_le32 (a % 4294967296) (by omega) (by omega);unfold aB Au; omega
theorem aoZ (a b:Int) (ha:aB a) (hb:aB b):aB (EU a b):=by unfold aB EU at *; omega
theorem ao0 (a b:Int) (ha:aB a) (hb:aB b):aB (EW a b):=by unfold aB EW at *; omega
structure Wd where
 v:Int
 ok:aB v
theorem Wd.dw {a b:Wd} (h:a.v=b.v):a=b:=by cases a; cases b; cases h; rfl
def kW (n:Int):Wd:=⟨wrap32 n,pI n⟩
theorem jq {n:Int} (h:aB n):(kW n).v=n:=by show wrap32 n=n; unfold aB at h; unfold wrap32; omega
def C_ (a b:Wd):Wd:=⟨PG a.v b.v,aoP _ _⟩
def uT (a b:Wd):Wd:=⟨rX a.v b.v,aoQ _ _⟩
def gK (a b:Wd):Wd:=⟨I_ a.v b.v,amb _ _⟩
def rE (a b:Wd):Wd:=⟨Ja a.v b.v,amc _ _⟩
def iG (a b:Wd):Wd:=⟨tY a.v b.v,aoR _ _⟩
def JR (a b:Wd):Wd:=⟨BP a.v b.v,as4 _ _⟩
def yw (a b:Wd):Wd:=⟨KT a.v b.v,aoS _ _⟩
def VD (a b:Wd):Wd:=⟨KU a.v b.v,aoT _ _⟩
def nU (a b:Wd):Wd:=⟨tX a.v b.v,aeM _ _⟩
def wz (a b:Wd):Wd:=⟨wu a.v b.v,aoU _ _⟩
def wB (a b:Wd):Wd:=⟨wo a.v b.v,Va _ _ a.ok⟩
def Ht (a b:Wd):Wd:=⟨Aq a.v b.v,in_lt _ _⟩
def Je (a b:Wd):Wd:=⟨mX a.v b.v,aoV _ _⟩
def VE (a b:Wd):Wd:=⟨Aw a.v b.v,aoW _ _⟩
def aQ (a b:Wd):Wd:=⟨Jb a.v b.v,amd _ _⟩
def Dc (a b:Wd):Wd:=⟨EU a.v b.v,aoZ _ _ a.ok b.ok⟩
def AO (a b:Wd):Wd:=⟨EW a.v b.v,ao0 _ _ a.ok b.ok⟩
def jJ (a:Wd):Wd:=⟨Au a.v,aoY _⟩
def jZ (a:Wd):Wd:=⟨yu a.v,aeN _⟩
def iT (a:Wd):Wd:=⟨Ar a.v,aoX _ a.ok⟩
def ql (a:Wd):Wd:=⟨zo a.v,ame _ a.ok⟩
def Hu (m a b:Wd):Wd:=JR (iG a m) (VD b m)
def wW (x m:Wd):Wd:=uT (yw x m) m
def BR (a:Wd) (n:Int):Wd:=⟨tX a.v n,aeM _ _⟩
def qo (a:Wd) (n:Int):Wd:=⟨wo a.v n,Va _ _ a.ok⟩
def dM (a b c:Wd):Wd:=C_ (C_ (VE a a) (VE b b)) (VE c c)
def rG (n low high:Wd):Wd:=uT (JR (Je n low) (Je high n)) (kW 1)
def gQ (x z h:Wd):Wd:=nU (aQ x z) h
def jM (x:Wd) (l:List Wd):Wd:=l.foldl rE x
def qx (x:Wd) (l:List Wd):Wd:=l.foldl gK x
def ji (x:Wd) (l:List Wd):Wd:=l.foldl (fun s y=>gK s (aQ y y)) (aQ x x)
structure Tm where
 a:Nat
 b:Nat
 less:Bool
def pick (l:List Wd) (k:Nat):Wd:=l.getD k (kW 0)
def term (ps qs:List Wd) (t:Tm):Wd:=aQ (pick ps t.a) (pick qs t.b)
def av5 (ps qs:List Wd) (s:Wd) (t:Tm):Wd:=bif t.less then rE s (term ps qs t) else gK s (term ps qs t)
def av6 (ps qs:List Wd) (t:Tm):Wd:=bif t.less then rE (kW 0) (term ps qs t) else term ps qs t
def xK (ps qs:List Wd) (t:Tm) (l:List Tm):Wd:=l.foldl (av5 ps qs) (av6 ps qs t)
structure Q4 where
 a:Wd
 b:Wd
 c:Wd
 d:Wd
def NP (a b c d e f g h:Wd):Q4:=⟨xK [a,b,c,d] [e,f,g,h] ⟨0,0,false⟩ [⟨1,1,true⟩,⟨2,2,true⟩,⟨3,3,true⟩],xK [a,b,c,d] [e,f,g,h] ⟨0,1,false⟩ [⟨1,0,false⟩,⟨2,3,false⟩,⟨3,2,true⟩],xK [a,b,c,d] [e,f,g,h] ⟨0,2,false⟩ [⟨1,3,true⟩,⟨2,0,false⟩,⟨3,1,false⟩],xK [a,b,c,d] [e,f,g,h] ⟨0,3,false⟩ [⟨1,2,false⟩,⟨2,1,true⟩,⟨3,0,false⟩]⟩
def wY (a b c d e f g:Wd):Q4:=⟨xK [a,b,c,d] [e,f,g] ⟨1,0,true⟩ [⟨2,1,true⟩,⟨3,2,true⟩],xK [a,b,c,d] [e,f,g] ⟨0,0,false⟩ [⟨2,2,false⟩,⟨3,1,true⟩],xK [a,b,c,d] [e,f,g] ⟨0,1,false⟩ [⟨1,2,true⟩,⟨3,0,false⟩],xK [a,b,c,d] [e,f,g] ⟨0,2,false⟩ [⟨1,1,false⟩,⟨2,0,true⟩]⟩
def H6 (q0 q1 q2 q3 a0:Wd):Wd:=jM (aQ q1 q3) [aQ q0 q2,qo a0 1]
def H7 (q0 q1 q2 q3 a1:Wd):Wd:=jM (qx (aQ q0 q1) [aQ q2 q3]) [qo a1 1]
def H8 (q1 q2 a2:Wd):Wd:=jM (kW 536870912) [aQ q1 q1,aQ q2 q2,qo a2 1]
def afh (q0 q1 q2 q3 f0 f1 f2:Wd):Q4 :=
 ⟨qo (jM (aQ q1 f1) [aQ q2 f0]) 1,jM (qo (qx (aQ q3 f0) [aQ q0 f1]) 1) [aQ q1 f2],jM (qo (jM (aQ q3 f1) [aQ q0 f0]) 1) [aQ q2 f2],qo (qx (aQ q1 f0) [aQ q2 f1]) 1⟩
def NQ (q0 q1 q2 q3 a0 a1 a2:Wd):Q4:=afh q0 q1 q2 q3 (H6 q0 q1 q2 q3 a0) (H7 q0 q1 q2 q3 a1) (H8 q1 q2 a2)
structure T3 where
 a:Wd
 b:Wd
 c:Wd
def zK (q0 q1 q2 q3 bx bz f0 f1 f2:Wd):T3 :=
 ⟨jM (qx (aQ bx (jM (kW 536870912) [aQ q2 q2,aQ q3 q3])) [aQ bz (jM (aQ q1 q3) [aQ q0 q2])]) [qo f0 1],
  jM (qx (aQ bx (jM (aQ q1 q2) [aQ q0 q3])) [aQ bz (qx (aQ q0 q1) [aQ q2 q3])]) [qo f1 1],
  jM (qx (aQ bx (qx (aQ q0 q2) [aQ q1 q3])) [aQ bz (jM (kW 536870912) [aQ q1 q1,aQ q2 q2])]) [qo f2 1]⟩
def V7 (u y:Wd):Wd:=gK y (qo (aQ y (rE (kW 1073741824) (BR (aQ u (aQ y y)) 2))) 1)
def Tq (x:Wd):Wd:=iG (jJ x) (kW 30)
def NR (x:Wd):Wd:=wz (nU x (Tq x)) (kW 2)
def ap3 (u:Wd):Wd:=rE (kW 1184766729) (aQ (kW 715827883) u)
def Tt (u:Wd):Nat->Wd
 | 0=>ap3 u
 | k+1=>V7 u (Tt u k)
def dA (x:Wd):Wd × Wd:=(Tt (NR x) 4,wz (Tq x) (kW 1))
def B_ (x:Wd):Wd:=gQ x (dA x).1 (dA x).2
def mJ (x0 x1 x2:Wd):T3:=⟨gQ (BR x0 15) (dA (dM x0 x1 x2)).1 (dA (dM x0 x1 x2)).2,gQ (BR x1 15) (dA (dM x0 x1 x2)).1 (dA (dM x0 x1 x2)).2,gQ (BR x2 15) (dA (dM x0 x1 x2)).1 (dA (dM x0 x1 x2)).2⟩
def Tv (x0 x1 x2 x3:Wd):Q4:=⟨gQ x0 (dA (gK (ji x0 [x1,x2,x3]) (kW 1024))).1 (dA (gK (ji x0 [x1,x2,x3]) (kW 1024))).2,gQ x1 (dA (gK (ji x0 [x1,x2,x3]) (kW 1024))).1 (dA (gK (ji x0 [x1,x2,x3]) (kW 1024))).2,gQ x2 (dA (gK (ji x0 [x1,x2,x3]) (kW 1024))).1 (dA (gK (ji x0 [x1,x2,x3]) (kW 1024))).2,gQ x3 (dA (gK (ji x0 [x1,x2,x3]) (kW 1024))).1 (dA (gK (ji x0 [x1,x2,x3]) (kW 1024))).2⟩
def sumW (a b c e0 e1 e2:Wd):Wd:=qo (qx (aQ a e0) [aQ b e1,aQ c e2]) 1
def xM (q0 q1 q2 q3 f0 f1 f2:Wd):Q4:=NP (wY q0 q1 q2 q3 f0 f1 f2).a (wY q0 q1 q2 q3 f0 f1 f2).b (wY q0 q1 q2 q3 f0 f1 f2).c (wY q0 q1 q2 q3 f0 f1 f2).d q0 (jZ q1) (jZ q2) (jZ q3)
def DZ (q0 q1 q2 q3 f0 f1 f2:Wd):Wd:=B_ (ji (xM q0 q1 q2 q3 f0 f1 f2).b [(xM q0 q1 q2 q3 f0 f1 f2).c])
def D5 (q0 q1 q2 q3 f0 f1 f2:Wd):Wd:=(xM q0 q1 q2 q3 f0 f1 f2).d
def afi (q0 q1 q2 q3 f0 f1 f2:Wd):T3:=zK q0 q1 q2 q3 (DZ q0 q1 q2 q3 f0 f1 f2) (D5 q0 q1 q2 q3 f0 f1 f2) f0 f1 f2
def afj (q0 q1 q2 q3 f0 f1 f2:Wd):Q4:=⟨aQ (DZ q0 q1 q2 q3 f0 f1 f2) q0,aQ (DZ q0 q1 q2 q3 f0 f1 f2) q1,aQ (DZ q0 q1 q2 q3 f0 f1 f2) q2,aQ (DZ q0 q1 q2 q3 f0 f1 f2) q3⟩
def afk (q0 q1 q2 q3 f0 f1 f2:Wd):Q4:=⟨aQ (D5 q0 q1 q2 q3 f0 f1 f2) q0,aQ (D5 q0 q1 q2 q3 f0 f1 f2) q1,aQ (D5 q0 q1 q2 q3 f0 f1 f2) q2,aQ (D5 q0 q1 q2 q3 f0 f1 f2) q3⟩
def nH (x y:Q4) (e:T3):Q4 :=
 ⟨sumW (jZ y.c) (jM y.b [x.d]) x.c e.a e.b e.c,
  sumW y.d (qx x.c [y.a]) (jM x.d [y.b,y.b]) e.a e.b e.c,
  sumW (jZ (qx x.c [x.c,y.a])) (qx x.b [y.d]) (jM x.a [y.c,y.c]) e.a e.b e.c,
  sumW (jM y.b [x.d,x.d]) (jM y.c [x.a]) x.b e.a e.b e.c⟩
def H9 (q0 q1 q2 q3 f0 f1 f2:Wd):Q4:=nH (afj q0 q1 q2 q3 f0 f1 f2) (afk q0 q1 q2 q3 f0 f1 f2) (afi q0 q1 q2 q3 f0 f1 f2)
def V8:List Wd:=[kW 421657428,kW 248918915,kW 131521918,kW 66762579,kW 33510843,kW 16771758,kW 8387925,kW 4194219,kW 2097141,kW 1048575,kW 524288,kW 262144,kW 131072,kW 65536,kW 32768,kW 16384,kW 8192,kW 4096,kW 2048,kW 1024,kW 512,kW 256,kW 128,kW 64,kW 32,kW 16,kW 8,kW 4]
def afl (v s:Wd):Wd:=wz (nU v s) (kW 2)
def V9 (i:Nat) (x y c:Wd):T3:=⟨C_ x (wW (wB y (kW i)) (ql y)),uT y (wW (wB x (kW i)) (ql y)),C_ c (wW (V8.getD i (kW 0)) (ql y))⟩
def tu (x y:Wd):Nat->T3
 | 0=>⟨x,y,kW 0⟩
 | i+1=>V9 i (tu x y i).a (tu x y i).b (tu x y i).c
def afm (y x:Wd):T3:=tu (afl (AO (iT x) (iT y)) (uT (jJ (AO (iT x) (iT y))) (kW 1))) (afl (Dc (iT x) (iT y)) (uT (jJ (AO (iT x) (iT y))) (kW 1))) 28
def V_ (y x c:Wd):Wd:=Hu (jZ (Ht (iT x) (iT y))) (uT (kW 843314857) c) c
def Wh (x b:Wd):Wd:=Hu (ql x) (uT (kW 1686629713) b) b
def afn (y x:Wd):Wd:=V_ y x (afm y x).c
def afo (y x:Wd):Wd:=Wh x (afn y x)
def AY (y x:Wd):Wd:=wW (afo y x) (ql y)
def Jj (q0 q1 q2 q3:Wd):Wd:=qx (aQ q0 q1) [aQ q2 q3]
def Jk (q0 q1 q2 q3:Wd):Wd:=jM (kW 536870912) [aQ q1 q1,aQ q2 q2]
def rH (q0 q1 q2 q3:Wd):Wd:=jM (aQ q0 q2) [aQ q3 q1]
def ZT (q0 q1 q2 q3:Wd):Wd:=qx (aQ q0 q3) [aQ q1 q2]
def ZU (q0 q1 q2 q3:Wd):Wd:=jM (kW 536870912) [aQ q2 q2,aQ q3 q3]
def ZV (q0 q1 q2 q3:Wd):Wd:=B_ (ji (Jk q0 q1 q2 q3) [Jj q0 q1 q2 q3])
def iQ (q0 q1 q2 q3:Wd):T3:=⟨AY (Jj q0 q1 q2 q3) (Jk q0 q1 q2 q3),AY (rH q0 q1 q2 q3) (ZV q0 q1 q2 q3),AY (ZT q0 q1 q2 q3) (ZU q0 q1 q2 q3)⟩
def kU (q0 q1 q2 q3:Wd):Wd:=uT (Ht (iT (rH q0 q1 q2 q3)) (kW 536000000)) (kW 1)
def NS (x0 x1 x2 x3:Wd):Q4:=⟨gQ x0 (dA (ji x0 [x1,x2,x3])).1 (dA (ji x0 [x1,x2,x3])).2,gQ x1 (dA (ji x0 [x1,x2,x3])).1 (dA (ji x0 [x1,x2,x3])).2,gQ x2 (dA (ji x0 [x1,x2,x3])).1 (dA (ji x0 [x1,x2,x3])).2,gQ x3 (dA (ji x0 [x1,x2,x3])).1 (dA (ji x0 [x1,x2,x3])).2⟩
def akL (x:Wd):Wd:=Dc (AO x (kW (-134217728))) (kW 134217728)
def Jl (q r b ga:Wd):Wd:=gK q (akL (rE r (iG (qo b 8) ga)))
def nX (a0 a1 a2:Wd):Wd:=rG (dM a0 a1 a2) (kW 16777216) (kW 150994944)
def nY (m0 m1 m2:Wd):Wd:=rG (dM m0 m1 m2) (kW 1000000) (kW 400000000)
def ZW (q0 q1 q2 q3 a0 a1 a2:Wd):Q4:=NQ q0 q1 q2 q3 (mJ a0 a1 a2).a (mJ a0 a1 a2).b (mJ a0 a1 a2).c
def ZX (q0 q1 q2 q3 m0 m1 m2:Wd):Q4:=H9 q0 q1 q2 q3 (mJ m0 m1 m2).a (mJ m0 m1 m2).b (mJ m0 m1 m2).c
def Wi (P N:Q4) (gm:Wd):Q4:=⟨gK P.a (iG N.a gm),gK P.b (iG N.b gm),gK P.c (iG N.c gm),gK P.d (iG N.d gm)⟩
def afp (D:Q4):Q4:=Tv D.a D.b D.c D.d
def afq (q0 q1 q2 q3 g0 g1 g2:Wd):Q4:=wY q0 q1 q2 q3 (BR g0 12) (BR g1 12) (BR g2 12)
def stepOf (q0 q1 q2 q3:Wd) (R E:Q4) (ga:Wd):Q4:=NS (Jl q0 R.a E.a ga) (Jl q1 R.b E.b ga) (Jl q2 R.c E.c ga) (Jl q3 R.d E.d ga)
def ZY (q0 q1 q2 q3 a0 a1 a2 m0 m1 m2:Wd):Q4:=afp (Wi (ZW q0 q1 q2 q3 a0 a1 a2) (ZX q0 q1 q2 q3 m0 m1 m2) (nY m0 m1 m2))
def zL (q0 q1 q2 q3 g0 g1 g2 a0 a1 a2 m0 m1 m2:Wd):Q4:=stepOf q0 q1 q2 q3 (afq q0 q1 q2 q3 g0 g1 g2) (ZY q0 q1 q2 q3 a0 a1 a2 m0 m1 m2) (nX a0 a1 a2)
end

section
open Go.RowKit
theorem WX:BitVec.ofInt 32 (-1)=BitVec.allOnes 32:=by decide
theorem Ea:BitVec.ofInt 32 0=0#32:=by decide
theorem aas {x:Int} (h:aB x):tY x (-1)=x:=by
 show IntKind.i32.wrap ((BitVec.ofInt 32 x &&& BitVec.ofInt 32 (-1)).toNat:Int)=_;rw [WX,BitVec.and_allOnes,IntKind.wrap_i32,BitVec.toNat_ofInt];unfold aB at h;omega
theorem WY (x:Int):tY x 0=0:=by
 show IntKind.i32.wrap ((BitVec.ofInt 32 x &&& BitVec.ofInt 32 0).toNat:Int)=_;rw [Ea,BitVec.and_zero];decide
theorem or_none {x:Int} (h:aB x):BP x 0=x:=by
 show IntKind.i32.wrap ((BitVec.ofInt 32 x ||| BitVec.ofInt 32 0).toNat:Int)=_;rw [Ea,BitVec.or_zero,IntKind.wrap_i32,BitVec.toNat_ofInt];unfold aB at h;omega
theorem none_or {x:Int} (h:aB x):BP 0 x=x:=by
 show IntKind.i32.wrap ((BitVec.ofInt 32 0 ||| BitVec.ofInt 32 x).toNat:Int)=_;rw [Ea,BitVec.zero_or,IntKind.wrap_i32,BitVec.toNat_ofInt];unfold aB at h;omega
theorem aiS {x:Int} (h:aB x):KT x 0=x:=by
 show IntKind.i32.wrap ((BitVec.ofInt 32 x ^^^ BitVec.ofInt 32 0).toNat:Int)=_;rw [Ea,BitVec.xor_zero,IntKind.wrap_i32,BitVec.toNat_ofInt];unfold aB at h;omega
theorem am1 {x:Int} (h:aB x):KT x (-1)=-x - 1:=by
 show IntKind.i32.wrap ((BitVec.ofInt 32 x ^^^ BitVec.ofInt 32 (-1)).toNat:Int)=_;rw [WX,BitVec.xor_allOnes,IntKind.wrap_i32,BitVec.toNat_not,BitVec.toNat_ofInt];unfold aB at h;omega
theorem aiT {x:Int} (h:aB x):KU x 0=x:=by
 show IntKind.i32.wrap ((BitVec.ofInt 32 x &&& ~~~BitVec.ofInt 32 0).toNat:Int)=_;rw [Ea,BitVec.not_zero,BitVec.and_allOnes,IntKind.wrap_i32,BitVec.toNat_ofInt];unfold aB at h;omega
theorem am2 {x:Int} (h:aB x):KU x (-1)=0:=by
 show IntKind.i32.wrap ((BitVec.ofInt 32 x &&& ~~~BitVec.ofInt 32 (-1)).toNat:Int)=_;rw [WX,BitVec.not_allOnes,BitVec.and_zero];decide
theorem wK {y:Wd} (h:0<=y.v):ql y=kW 0:=Wd.dw (by
 have:=y.ok; unfold aB at this;show y.v / 2147483648=(kW 0).v
 rw [jq (by decide)]; omega)
theorem sign_neg {y:Wd} (h:y.v < 0):ql y=kW (-1):=Wd.dw (by
 have:=y.ok; unfold aB at this;show y.v / 2147483648=(kW (-1)).v
 rw [jq (by decide)]; omega)
theorem Ce (x:Wd):wW x (kW 0)=x:=Wd.dw (by
 have:=x.ok;show wrap32 (KT x.v (kW 0).v - (kW 0).v)=x.v;rw [jq (by decide),aiS this]
 unfold aB at this; unfold wrap32; omega)
theorem Ju (a b:Wd):Hu (kW (-1)) a b=a:=Wd.dw (by
 show BP (tY a.v (kW (-1)).v) (KU b.v (kW (-1)).v)=a.v
 rw [jq (by decide),aas a.ok,am2 b.ok,or_none a.ok])
theorem FM (a b:Wd):Hu (kW 0) a b=b:=Wd.dw (by
 show BP (tY a.v (kW 0).v) (KU b.v (kW 0).v)=b.v
 rw [jq (by decide),WY,aiT b.ok,none_or b.ok])
theorem am3 {a b:Wd} (h:a.v < b.v):jZ (Ht a b)=kW (-1):=Wd.dw (by
 show jY (-(if a.v < b.v then 1 else 0))=_
 rw [if_pos h]; decide +kernel)
theorem aqN {a b:Wd} (h:b.v<=a.v):jZ (Ht a b)=kW 0:=Wd.dw (by
 show jY (-(if a.v < b.v then 1 else 0))=_
 rw [if_neg (by omega)]; decide +kernel)
end

section
open Go.RowKit Go.Deep
theorem Xd {x n:Int} (hn:0 < n):x % n=if x.tmod n < 0 then x.tmod n+n else x.tmod n:=by
 rw [Int.tmod_eq_emod];have h1:=Int.emod_nonneg x (by omega:n≠0);have h2:=Int.emod_lt_of_pos x hn;split<;>split<;>omega
theorem xQ (x n:Int) (w:World) (hx:-9223372036854775808<=x/\x<=9223372036854775807) (hn:0 < n/\n<=9223372036854775807) :
 Calls Tryz.prog 138 #[.int .i64 x,.int .i64 n] w fun e w'=>e=.returned (.int .i64 (x % n))/\w=w':=by
 have hm:=@Xd x n hn.1;have h1:=Int.emod_nonneg x (by omega:n≠0);have h2:=Int.emod_lt_of_pos x hn.1;by_cases h0:x.tmod n < 0
 . rw [if_pos h0] at hm
   go_enter Tryz.func138,Tryz.ntmps138
   go_wp2_with fail
   go_ret;exact ⟨by first | rfl | (rw [hm]; rfl),rfl⟩
 . rw [if_neg h0] at hm
   go_enter Tryz.func138,Tryz.ntmps138
   go_wp2_with fail
   go_ret;exact ⟨by first | rfl | (rw [hm]; rfl),rfl⟩
theorem Xe (x:Int) (w:World) (hx:-9223372036854775808<=x/\x<=9223372036854775807) :
 Calls Tryz.prog 79 #[.int .i64 x,.int .i64 32] w fun e w'=>e=.returned (.int .i64 (wrap32 x))/\w=w':=by
 go_enter Tryz.func79,Tryz.ntmps79
 go_wp2_with fail
 go_loopw [5,6] (fun m i wr=>∃ k:Nat,k<=32/\i=.int .i64 k/\m=.int .i64 ((2:Int) ^ k)/\w=wr) (fun m i _=>32 - (intOf i).toNat)
 case atStart=>exact ⟨0,by omega,rfl,rfl,rfl⟩
 case round =>
  obtain ⟨k,hk,rfl,rfl,rfl⟩:=hrel;by_cases hlt:k < 32
  . have hp : (2 : Int) ^ k<=2147483648 := by
     have:(2:Int) ^ k<=2 ^ 31:=by exact_mod_cast Nat.pow_le_pow_right (by omega:1<=2) (by omega:k<=31)
     simpa using this
    have hq:0 < (2:Int) ^ k:=Int.pow_pos (by omega);have hs:(2:Int) * 2 ^ k=2 ^ (k+1):=by rw [Int.pow_succ,Int.mul_comm]
    generalize hP:(2:Int) ^ k=p at *;go_wp2_with fail
    go_roundw
    case rel=>exact ⟨k+1,by omega,by go_num,by first | rfl | rw [hs],by trivial⟩
    case measure=>simp [intOf]; omega
  . obtain rfl:k=32:=by omega
    go_wp2_with fail
    refine (xQ x 4294967296 _ hx (by omega)).mono ?_;rintro e w' ⟨rfl,rfl⟩;by_cases hg:2147483648<=x % 4294967296
    . have hw:wrap32 x=x % 4294967296 - 4294967296:=by unfold wrap32; omega
      have hb:x % 4294967296 < 4294967296:=by omega
      generalize x % 4294967296=y at *;go_wp2;go_ret;exact ⟨by rw [hw]; rfl,rfl⟩
    . have hw:wrap32 x=x % 4294967296:=by unfold wrap32; omega
      have hb:0<=x % 4294967296:=by omega
      generalize x % 4294967296=y at *;go_wp2;go_ret;exact ⟨by rw [hw]; rfl,rfl⟩
theorem xR (x:Int) (w:World) (hx:-9223372036854775808<=x/\x<=9223372036854775807) :
 Calls Tryz.prog 78 #[.int .i64 x] w fun e w'=>e=.returned (.int .i32 (wrap32 x))/\w=w':=by
 have hb:-2147483648<=wrap32 x/\wrap32 x<=2147483647:=by unfold wrap32; omega
 go_enter Tryz.func78,Tryz.ntmps78
 go_wp2_with fail
 refine (Xe x _ hx).mono ?_;rintro e w' ⟨rfl,rfl⟩;generalize hy:wrap32 x=y at *;go_wp2;go_ret;refine ⟨?_,rfl⟩
 first | rfl | (rw [hy]; rfl)
theorem sU (x:Int) (w:World) (hx:-2147483648<=x/\x<=2147483647) :
 Calls Tryz.prog 242 #[.int .i32 x] w fun e w'=>e=.returned (.int .i64 (x % 4294967296))/\w=w':=by
 go_enter Tryz.func242,Tryz.ntmps242
 go_wp2_with fail
 refine (xQ x 4294967296 _ (by omega) (by omega)).mono ?_;rintro e w' ⟨rfl,rfl⟩;go_wp2;go_ret;exact ⟨rfl,rfl⟩
theorem wrap32_in (x:Int):-2147483648<=wrap32 x/\wrap32 x<=2147483647:=by unfold wrap32; omega
theorem ac_ (x:Int) (h:-2147483648<=x/\x<=2147483647):-9223372036854775808<=x * x/\x * x<=9223372036854775807:=by
 have h1:x * x=(x.natAbs * x.natAbs:Nat):=by rw [Int.natAbs_mul_self]
 have h2:x.natAbs * x.natAbs<=2147483648 * 2147483648:=Nat.mul_le_mul (by omega) (by omega);omega
def pq (x:Int):Int:=wrap32 (x * x) % 4294967296
theorem ada (x:Int):0<=pq x/\pq x < 4294967296:=by unfold pq; omega
def uF (a b c:Int):Int:=wrap32 (pq a+pq b+pq c)
theorem Gt (a b c:Int) (w:World) (ha:-2147483648<=a/\a<=2147483647) (hb:-2147483648<=b/\b<=2147483647) (hc:-2147483648<=c/\c<=2147483647) :
 Calls Tryz.prog 188 #[.agg #[.int .i32 a,.int .i32 b,.int .i32 c]] w fun e w'=>e=.returned (.int .i32 (uF a b c))/\ah w w' []:=by
 have k0:=aC.new w 56 [.int .i32 a,.int .i32 b,.int .i32 c];have m0:=k0;have ajp:=m0.cell' (i:=0) rfl;have ajq:=m0.cell' (i:=1) rfl;have ajr:=m0.cell' (i:=2) rfl;have HC:=hide ((ah.refl w []).alloc (.cells #[.int .i32 a,.int .i32 b,.int .i32 c] 56));clear k0;have HR:=hide m0;clear m0;go_enter Tryz.func188,Tryz.ntmps188
 go_wp2_with fail
 generalize hw5:(w.alloc (.cells #[.int .i32 a,.int .i32 b,.int .i32 c] 56))=w5 at *;clear hw5;go_loopw [3,4] (fun n i wr=>∃ k:Nat,k<=3/\i=.int .i64 k/\n=.int .i64 ([0,pq a,pq a+pq b,pq a+pq b+pq c].getD k 0)/\Hid (aC wr w.heap.size 56 [.int .i32 a,.int .i32 b,.int .i32 c])/\Hid (ah w wr [])) (fun _ i _=>3 - (intOf i).toNat)
 case atStart=>exact ⟨0,by omega,rfl,rfl,HR,HC⟩
 case round =>
  clear HR HC;obtain ⟨k,hk,rfl,rfl,HB,HK⟩:=hrel;have sa:=ada a;have sb:=ada b;have sc:=ada c;rcases (by omega:k=0\/k=1\/k=2\/k=3) with rfl | rfl | rfl | rfl
  . have x0:=HB.out.cell' (i:=0) rfl
    have hm:=ac_ a ha;simp only [List.getD_cons_zero];have e1:IntKind.i64.wrap a=a:=by rw [IntKind.wrap_i64]; omega
    have e2:IntKind.i64.wrap (a * a)=a * a:=by rw [IntKind.wrap_i64]; omega
    go_wp2_with fail
    go_region_with (first | (go_at_call 78; refine (xR (a * a) _ hm).mono ?_; rintro e w9 ⟨rfl,rfl⟩) | (go_at_call 242; refine (sU (wrap32 (a * a)) _ (wrap32_in _)).mono ?_; rintro e w9 ⟨rfl,rfl⟩))
    all_goals
     go_wp2;go_roundw
     case rel=>exact ⟨1,by omega,by go_num,by first | rfl | (simp [pq]; done) | (simp [pq]; omega),hide (HB.out.drew),hide (HK.out.drew)⟩
     case measure=>simp [intOf]
  . have x0:=HB.out.cell' (i:=1) rfl
    have hm:=ac_ b hb;simp only [List.getD_cons_zero,List.getD_cons_succ];have e1:IntKind.i64.wrap b=b:=by rw [IntKind.wrap_i64]; omega
    have e2:IntKind.i64.wrap (b * b)=b * b:=by rw [IntKind.wrap_i64]; omega
    go_wp2_with fail
    go_region_with (first | (go_at_call 78; refine (xR (b * b) _ hm).mono ?_; rintro e w9 ⟨rfl,rfl⟩) | (go_at_call 242; refine (sU (wrap32 (b * b)) _ (wrap32_in _)).mono ?_; rintro e w9 ⟨rfl,rfl⟩))
    all_goals
     go_wp2;go_roundw
     case rel=>exact ⟨2,by omega,by go_num,by first | rfl | (simp [pq]; done) | (simp [pq]; omega),hide (HB.out.drew),hide (HK.out.drew)⟩
     case measure=>simp [intOf]
  . have x0:=HB.out.cell' (i:=2) rfl
    have hm:=ac_ c hc;simp only [List.getD_cons_zero,List.getD_cons_succ];have e1:IntKind.i64.wrap c=c:=by rw [IntKind.wrap_i64]; omega
    have e2:IntKind.i64.wrap (c * c)=c * c:=by rw [IntKind.wrap_i64]; omega
    go_wp2_with fail
    go_region_with (first | (go_at_call 78; refine (xR (c * c) _ hm).mono ?_; rintro e w9 ⟨rfl,rfl⟩) | (go_at_call 242; refine (sU (wrap32 (c * c)) _ (wrap32_in _)).mono ?_; rintro e w9 ⟨rfl,rfl⟩))
    all_goals
     go_wp2;go_roundw
     case rel=>exact ⟨3,by omega,by go_num,by first | rfl | (simp [pq]; done) | (simp [pq]; omega),hide (HB.out.drew),hide (HK.out.drew)⟩
     case measure=>simp [intOf]
  . simp only [List.getD_cons_zero,List.getD_cons_succ]
    go_wp2_with fail
    refine (xR (pq a+pq b+pq c) _ (by omega)).mono ?_;rintro e w9 ⟨rfl,rfl⟩;have hw:=wrap32_in (pq a+pq b+pq c);go_wp2;go_ret;exact ⟨rfl,HK.out⟩
def inside (lo hi a b c:Int):Bool:=decide (lo<=uF a b c % 4294967296) && decide (uF a b c % 4294967296<=hi)
theorem Gu (a b c lo hi:Int) (w:World) (ha:-2147483648<=a/\a<=2147483647) (hb:-2147483648<=b/\b<=2147483647) (hc:-2147483648<=c/\c<=2147483647) :
 Calls Tryz.prog 190 #[.agg #[.int .i32 a,.int .i32 b,.int .i32 c],.int .i64 lo,.int .i64 hi] w fun e w'=>e=.returned (.bool (inside lo hi a b c))/\ah w w' []:=by
 have k0:=aC.new w 56 [.int .i32 a,.int .i32 b,.int .i32 c];have m0:=k0;have ajp:=m0.cell' (i:=0) rfl;have ajq:=m0.cell' (i:=1) rfl;have ajr:=m0.cell' (i:=2) rfl;have HC:=hide ((ah.refl w []).alloc (.cells #[.int .i32 a,.int .i32 b,.int .i32 c] 56));clear k0;clear m0;go_enter Tryz.func190,Tryz.ntmps190
 go_wp2_with fail
 generalize hw5:(w.alloc (.cells #[.int .i32 a,.int .i32 b,.int .i32 c] 56))=w5 at *;clear hw5;refine (Gt a b c _ ha hb hc).mono ?_;rintro e w6 ⟨rfl,hx⟩;have BN:=hide (HC.out.trans hx (D:=[]) (by simp));clear hx;go_wp2_with fail
 refine (sU (uF a b c) _ (wrap32_in _)).mono ?_;rintro e w7 ⟨rfl,rfl⟩;generalize hp:uF a b c % 4294967296=p at *;by_cases h1:lo<=p
 . have hres:inside lo hi a b c=decide (p<=hi):=by unfold inside; rw [hp]; simp [h1]
   go_wp2;go_ret;exact ⟨by first | rfl | (rw [hres]; rfl),BN.out⟩
 . have hres:inside lo hi a b c=false:=by unfold inside; rw [hp]; simp [h1]
   go_wp2;go_ret;exact ⟨by first | rfl | (rw [hres]; rfl),BN.out⟩
theorem Qj (a b c:Int) (w:World) (ha:-2147483648<=a/\a<=2147483647) (hb:-2147483648<=b/\b<=2147483647) (hc:-2147483648<=c/\c<=2147483647) :
 Calls Tryz.prog 122 #[.agg #[.int .i32 a,.int .i32 b,.int .i32 c]] w fun e w'=>e=.returned (.bool (inside 16777216 150994944 a b c))/\ah w w' []:=by
 have k0:=aC.new w 56 [.int .i32 a,.int .i32 b,.int .i32 c];have m0:=k0;have ajp:=m0.cell' (i:=0) rfl;have ajq:=m0.cell' (i:=1) rfl;have ajr:=m0.cell' (i:=2) rfl;have HC:=hide ((ah.refl w []).alloc (.cells #[.int .i32 a,.int .i32 b,.int .i32 c] 56));clear k0;clear m0;go_enter Tryz.func122,Tryz.ntmps122
 go_wp2_with fail
 generalize hw5:(w.alloc (.cells #[.int .i32 a,.int .i32 b,.int .i32 c] 56))=w5 at *;clear hw5;refine (Gu a b c 16777216 150994944 _ ha hb hc).mono ?_;rintro e w6 ⟨rfl,hx⟩;have BN:=hide (HC.out.trans hx (D:=[]) (by simp));go_wp2;go_ret;exact ⟨rfl,BN.out⟩
theorem Xu (a b c:Int) (w:World) (ha:-2147483648<=a/\a<=2147483647) (hb:-2147483648<=b/\b<=2147483647) (hc:-2147483648<=c/\c<=2147483647) :
 Calls Tryz.prog 118 #[.agg #[.int .i32 a,.int .i32 b,.int .i32 c]] w fun e w'=>e=.returned (.bool (inside 1000000 400000000 a b c))/\ah w w' []:=by
 have k0:=aC.new w 56 [.int .i32 a,.int .i32 b,.int .i32 c];have m0:=k0;have ajp:=m0.cell' (i:=0) rfl;have ajq:=m0.cell' (i:=1) rfl;have ajr:=m0.cell' (i:=2) rfl;have HC:=hide ((ah.refl w []).alloc (.cells #[.int .i32 a,.int .i32 b,.int .i32 c] 56));clear k0;clear m0;go_enter Tryz.func118,Tryz.ntmps118
 go_wp2_with fail
 generalize hw5:(w.alloc (.cells #[.int .i32 a,.int .i32 b,.int .i32 c] 56))=w5 at *;clear hw5;refine (Gu a b c 1000000 400000000 _ ha hb hc).mono ?_;rintro e w6 ⟨rfl,hx⟩;have BN:=hide (HC.out.trans hx (D:=[]) (by simp));go_wp2;go_ret;exact ⟨rfl,BN.out⟩
def Cm (n:Wd) (low high:Int):Bool:=(rG n (kW low) (kW high)).v != 0
theorem agh (n low high:Wd):(rG n low high).v=0\/(rG n low high).v=-1:=by
 show rX (BP (mX n.v low.v) (mX high.v n.v)) (kW 1).v=0\/rX (BP (mX n.v low.v) (mX high.v n.v)) (kW 1).v=-1;unfold mX;by_cases a:n.v % 4294967296 < low.v % 4294967296<;>by_cases b:high.v % 4294967296 < n.v % 4294967296
 . rw [if_pos a,if_pos b]; left; decide +kernel
 . rw [if_pos a,if_neg b]; left; decide +kernel
 . rw [if_neg a,if_pos b]; left; decide +kernel
 . rw [if_neg a,if_neg b]; right; decide +kernel
def OH (m:Wd) (f:Int):Int:=if m.v=0 then f else 0
def vC (ga gm:Wd):Int:=OH ga 2+OH gm 4
def iP (a b c d:Wd):Bool:=(kU a b c d).v != 0
