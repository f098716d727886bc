/- Texts of this claim, side by side. -/
import Derived.Test.YtjmojlhnmkjdkaaGreatDoorDP1
import Derived.Test.YtjmojlhnmkjdkaaGreatDoorShelfBD
set_option linter.unusedVariables false
set_option maxRecDepth 100000
set_option maxHeartbeats 8000000
namespace Go.Proofs.YtjmojlhnmkjdkaaGreatDoor
section
open Go.RowKit Go.Deep
def AA(a:Int):Int:=32 - (Lib.bitLen (a%4294967296).toNat:Int)
def AL(a b:Int):Int:=wrap32 (a*b%4294967296)
def Jk(a b:Int):Int:=jZ (a*b / 1073741824+a*b / 536870912%2)
theorem abS (a:Int) (w:World) (ha:-2147483648<=a/\a<=2147483647) :
 Calls Tryz.prog 340 #[.int .i32 a] w fun e w'=>e=.returned (.int .i32 (Az a))/\ah w w' []:=by
 obtain⟨n,hn⟩:∃ n,n=yE a:=⟨_,rfl⟩
 have e:Az a=max a n:=by unfold Az; rw [hn]
 rw [e];have HN:=hide hn;clear hn e;go_enter Tryz.func340,Tryz.ntmps340
 go_wp2_with fail
 refine(NK a _ ha).mono ?_;rintro e w1 ⟨rfl,hc⟩;rw [<- HN.out];have HC:=hide hc;clear hc HN;go_wp2
 all_goals
  go_ret;exact⟨by first | (rw [show max a n=if a<n then n else a by split<;>omega]; rfl) | (rw [show max a n=n by omega]; rfl) | (rw [show max a n=a by omega]; rfl),HC.out⟩
theorem ae1 (a:Int) (w:World) (ha:-2147483648<=a/\a<=2147483647) :
 Calls Tryz.prog 338 #[.int .i32 a] w fun e w'=>e=.returned (.int .i32 (AA a))/\w=w':=by
 have l:=Any.bitLen_le32 (a%4294967296) (by omega) (by omega);have hw:wrap32 (32 - (Lib.bitLen (a%4294967296).toNat:Int))=AA a:=by unfold AA wrap32; omega
 have HW:=hide hw;clear hw;go_enter Tryz.func338,Tryz.ntmps338
 go_wp2_with fail
 refine(Tryz.bits_LeadingZeros32 _ _ (by omega) (by omega)).mono ?_;rintro e w1 ⟨rfl,rfl⟩;clear l;generalize (32 - (Lib.bitLen (a%4294967296).toNat:Int))=n at *;go_wp2;go_ret;exact⟨by rw [<- HW.out]; rfl,rfl⟩
theorem abT (a b:Int) (w:World) (ha:-2147483648<=a/\a<=2147483647) (hb:-2147483648<=b/\b<=2147483647) :
 Calls Tryz.prog 294 #[.int .i32 a,.int .i32 b] w fun e w'=>e=.returned (.int .i32 (AL a b))/\ah w w' []:=by
 have e:AL a b=wrap32 (wrap64 (a*b)%4294967296):=by
  unfold AL;generalize a*b=p;unfold wrap64; congr 1; omega
 rw [e];clear e;go_enter Tryz.func294,Tryz.ntmps294
 go_wp2;go_ret;exact⟨rfl,(ah.refl w []).alloc _⟩
theorem YG(x:Int):bits BinOp.and IntKind.i64 x 1=x%2:=by
 show IntKind.i64.wrap ((BitVec.ofInt 64 x &&& BitVec.ofInt 64 1).toNat:Int)=_;have h2:(BitVec.ofInt 64 1).toNat=1:=by decide
 rw [BitVec.toNat_and,h2,Nat.and_one_is_mod,IntKind.wrap_i64,BitVec.toNat_ofInt];omega
theorem Vl(w:World):Calls Tryz.prog 317 #[.int .i64 30] w fun e w'=>e=.returned (.agg #[.func (.func 336) #[] #[.pointer (some ⟨w.heap.size,0,none⟩)]])/\ah w w' []/\w'.cell? ⟨w.heap.size,0,none⟩=some (.int .i64 30)/\w.heap.size<w'.heap.size:=by
 have hc:=(aC.new w 3 [.int .i64 30])
 have hz:=aC.new (w.alloc (.cells #[.int .i64 30] 3)) 370 [(.func (.func 336) #[] #[.pointer (some ⟨w.heap.size,0,none⟩)])];have h1:=hc.alloc (.cells #[(.func (.func 336) #[] #[.pointer (some ⟨w.heap.size,0,none⟩)])] 370);have c1:=h1.cell' (i:=0) rfl;have c2:=hz.cell' (i:=0) rfl;rw [size_alloc] at c2;have HC:=hide (((ah.refl w []).alloc (.cells #[.int .i64 30] 3)).alloc (.cells #[(.func (.func 336) #[] #[.pointer (some ⟨w.heap.size,0,none⟩)])] 370));clear hc hz h1;go_enter Tryz.func317,Tryz.ntmps317
 go_wp2;refine bodyPost_ret (v:=.agg #[.func (.func 336) #[] #[.pointer (some ⟨w.heap.size,0,none⟩)]]) ?_ rfl ⟨rfl,HC.out,c1,by simp; omega⟩;simp [results,Tryz.f317,go_sem,c2]
theorem SN(x:Int)(p:Addr)(w:World)(hp:w.cell? p=some (.int .i64 30))(hx:-4611686018427387904<=x/\x<=4611686018427387904):Calls Tryz.prog 336 #[.int .i64 x,.pointer (some p)] w fun e w'=>e=.returned (.int .i32 (jZ (x / 1073741824+x / 536870912%2)))/\w=w':=by
 have hb:=YG (x / 536870912);have hw:wrap64 (x / 1073741824+x / 536870912%2)=x / 1073741824+x / 536870912%2:=by unfold wrap64; omega
 go_enter Tryz.func336,Tryz.ntmps336
 go_wp2;go_ret;exact⟨by simp only [jZ]; rfl,rfl⟩
theorem prod_bound{a b:Int}(ha:-2147483648<=a/\a<=2147483647)(hb:-2147483648<=b/\b<=2147483647):-4611686018427387904<=a*b/\a*b<=4611686018427387904:=by
 have h:(a*b).natAbs<=2147483648*2147483648:=by
  rw [Int.natAbs_mul]; exact Nat.mul_le_mul (by omega) (by omega)
 omega
theorem Lu(a b:Int)(p:Addr)(w:World)(ha:-2147483648<=a/\a<=2147483647)(hb:-2147483648<=b/\b<=2147483647)(hp:w.cell? p=some (.int .i64 30)) :
 Calls Tryz.prog 315 #[.agg #[.func (.func 336) #[] #[.pointer (some p)]],.int .i32 a,.int .i32 b] w fun e w'=>e=.returned (.int .i32 (Jk a b))/\ah w w' []:=by
 have hpb:=prod_bound ha hb;have hm:wrap64 (a*b)=a*b:=by generalize a*b=p at *; unfold wrap64; omega
 have hp1:=fun o=>((ah.refl w []).alloc o).cell hp (by simp);go_enter Tryz.func315,Tryz.ntmps315
 go_wp2_with fail
 refine(SN _ _ _ (hp1 _) hpb).mono ?_;rintro e w1 ⟨rfl,rfl⟩;go_wp2;go_ret;exact⟨rfl,(ah.refl w []).alloc _⟩
theorem abU (a b:Int) (w:World) (ha:-2147483648<=a/\a<=2147483647) (hb:-2147483648<=b/\b<=2147483647) :
 Calls Tryz.prog 296 #[.int .i32 a,.int .i32 b] w fun e w'=>e=.returned (.int .i32 (Jk a b))/\ah w w' []:=by
 go_enter Tryz.func296,Tryz.ntmps296
 go_wp2_with fail
 refine(Vl _).mono ?_;rintro e w1 ⟨rfl,hc,hp,_⟩;have HC:=hide hc;clear hc;go_wp2_with fail
 refine(Lu a b _ _ ha hb hp).mono ?_;rintro e w2 ⟨rfl,hc⟩;have HC2:=hide hc;clear hc;go_wp2;go_ret;exact⟨rfl,HC.out.trans HC2.out (by simp)⟩
def PX(a b:Int):Int:=wrap32 (a+b)
def sF (a b:Int):Int:=wrap32 (a - b)
def uh (a b:Int):Int:=bits BinOp.and IntKind.i32 a b
def BO (a b:Int):Int:=bits BinOp.or IntKind.i32 a b
def LC (a b:Int):Int:=bits BinOp.xor IntKind.i32 a b
def LD (a b:Int):Int:=bits BinOp.andNot IntKind.i32 a b
abbrev aB (a:Int):Prop:=-2147483648<=a/\a<=2147483647
theorem ao5(a b:Int)(w:World)(ha:aB a)(hb:aB b):Calls Tryz.prog 204 #[.int .i64 1,.int .i32 a,.int .i32 b] w fun e w'=>e=.returned (.tuple #[.int .i32 (PX a b),.bool true])/\ah w w' []:=by
 have HC:=hide (ah.refl w []);go_enter Tryz.func204,Tryz.ntmps204
 go_wp2;go_ret2;exact⟨rfl,HC.out⟩
theorem ao6(a b:Int)(w:World)(ha:aB a)(hb:aB b):Calls Tryz.prog 204 #[.int .i64 2,.int .i32 a,.int .i32 b] w fun e w'=>e=.returned (.tuple #[.int .i32 (sF a b),.bool true])/\ah w w' []:=by
 have HC:=hide (ah.refl w []);go_enter Tryz.func204,Tryz.ntmps204
 go_wp2;go_ret2;exact⟨rfl,HC.out⟩
theorem amv(a b:Int)(w:World)(ha:aB a)(hb:aB b):Calls Tryz.prog 204 #[.int .i64 3,.int .i32 a,.int .i32 b] w fun e w'=>e=.returned (.tuple #[.int .i32 (Ji a b),.bool true])/\ah w w' []:=by
 go_enter Tryz.func204,Tryz.ntmps204
 go_wp2_with fail
 refine(abQ a b _ ha hb).mono ?_;rintro e w1 ⟨rfl,hc⟩;have HC:=hide hc;clear hc;go_wp2;go_ret2;exact⟨rfl,HC.out⟩
theorem amw(a b:Int)(w:World)(ha:aB a)(hb:aB b):Calls Tryz.prog 204 #[.int .i64 4,.int .i32 a,.int .i32 b] w fun e w'=>e=.returned (.tuple #[.int .i32 (Jj a b),.bool true])/\ah w w' []:=by
 go_enter Tryz.func204,Tryz.ntmps204
 go_wp2_with fail
 refine(abR a b _ ha hb).mono ?_;rintro e w1 ⟨rfl,hc⟩;have HC:=hide hc;clear hc;go_wp2;go_ret2;exact⟨rfl,HC.out⟩
theorem ao7(a b:Int)(w:World)(ha:aB a)(hb:aB b):Calls Tryz.prog 204 #[.int .i64 5,.int .i32 a,.int .i32 b] w fun e w'=>e=.returned (.tuple #[.int .i32 (uh a b),.bool true])/\ah w w' []:=by
 have HC:=hide (ah.refl w []);go_enter Tryz.func204,Tryz.ntmps204
 go_wp2;go_ret2;exact⟨rfl,HC.out⟩
theorem atJ(a b:Int)(w:World)(ha:aB a)(hb:aB b):Calls Tryz.prog 204 #[.int .i64 6,.int .i32 a,.int .i32 b] w fun e w'=>e=.returned (.tuple #[.int .i32 (BO a b),.bool true])/\ah w w' []:=by
 have HC:=hide (ah.refl w []);go_enter Tryz.func204,Tryz.ntmps204
 go_wp2;go_ret2;exact⟨rfl,HC.out⟩
theorem ao8(a b:Int)(w:World)(ha:aB a)(hb:aB b):Calls Tryz.prog 204 #[.int .i64 7,.int .i32 a,.int .i32 b] w fun e w'=>e=.returned (.tuple #[.int .i32 (LC a b),.bool true])/\ah w w' []:=by
 have HC:=hide (ah.refl w []);go_enter Tryz.func204,Tryz.ntmps204
 go_wp2;go_ret2;exact⟨rfl,HC.out⟩
theorem ao9(a b:Int)(w:World)(ha:aB a)(hb:aB b):Calls Tryz.prog 204 #[.int .i64 8,.int .i32 a,.int .i32 b] w fun e w'=>e=.returned (.tuple #[.int .i32 (LD a b),.bool true])/\ah w w' []:=by
 have HC:=hide (ah.refl w []);go_enter Tryz.func204,Tryz.ntmps204
 go_wp2;go_ret2;exact⟨rfl,HC.out⟩
theorem ao_(a b:Int)(w:World)(ha:aB a)(hb:aB b):Calls Tryz.prog 204 #[.int .i64 9,.int .i32 a,.int .i32 b] w fun e w'=>e=.returned (.tuple #[.int .i32 (ug a b),.bool true])/\ah w w' []:=by
 go_enter Tryz.func204,Tryz.ntmps204
 go_wp2_with fail
 refine(aeY a b _).mono ?_;rintro e w1 ⟨rfl,hc⟩;have HC:=hide hc;clear hc;go_wp2;go_ret2;exact⟨rfl,HC.out⟩
theorem apa(a b:Int)(w:World)(ha:aB a)(hb:aB b):Calls Tryz.prog 204 #[.int .i64 10,.int .i32 a,.int .i32 b] w fun e w'=>e=.returned (.tuple #[.int .i32 (wI a b),.bool true])/\ah w w' []:=by
 go_enter Tryz.func204,Tryz.ntmps204
 go_wp2_with fail
 refine(aeZ a b _).mono ?_;rintro e w1 ⟨rfl,hc⟩;have HC:=hide hc;clear hc;go_wp2;go_ret2;exact⟨rfl,HC.out⟩
theorem apb(a b:Int)(w:World)(ha:aB a)(hb:aB b):Calls Tryz.prog 204 #[.int .i64 11,.int .i32 a,.int .i32 b] w fun e w'=>e=.returned (.tuple #[.int .i32 (wH a b),.bool true])/\ah w w' []:=by
 go_enter Tryz.func204,Tryz.ntmps204
 go_wp2_with fail
 refine(aeX a b _).mono ?_;rintro e w1 ⟨rfl,hc⟩;have HC:=hide hc;clear hc;go_wp2;go_ret2;exact⟨rfl,HC.out⟩
theorem apc(a b:Int)(w:World)(ha:aB a)(hb:aB b):Calls Tryz.prog 204 #[.int .i64 13,.int .i32 a,.int .i32 b] w fun e w'=>e=.returned (.tuple #[.int .i32 (Ar a b),.bool true])/\ah w w' []:=by
 have HC:=hide (ah.refl w []);go_enter Tryz.func204,Tryz.ntmps204
 go_wp2_with fail
 refine(abM a b _).mono ?_;rintro e w1 ⟨rfl,rfl⟩;go_wp2;go_ret2;exact⟨rfl,HC.out⟩
theorem amx(a b:Int)(w:World)(ha:aB a)(hb:aB b):Calls Tryz.prog 204 #[.int .i64 14,.int .i32 a,.int .i32 b] w fun e w'=>e=.returned (.tuple #[.int .i32 (mV a b),.bool true])/\ah w w' []:=by
 have HC:=hide (ah.refl w []);go_enter Tryz.func204,Tryz.ntmps204
 go_wp2_with fail
 refine(YF a b _).mono ?_;rintro e w1 ⟨rfl,rfl⟩;go_wp2;go_ret2;exact⟨rfl,HC.out⟩
theorem apd(a b:Int)(w:World)(ha:aB a)(hb:aB b):Calls Tryz.prog 204 #[.int .i64 15,.int .i32 a,.int .i32 b] w fun e w'=>e=.returned (.tuple #[.int .i32 (DU a b),.bool true])/\ah w w' []:=by
 have HC:=hide (ah.refl w []);go_enter Tryz.func204,Tryz.ntmps204
 go_wp2_with fail
 refine(abN a b _).mono ?_;rintro e w1 ⟨rfl,rfl⟩;go_wp2;go_ret2;exact⟨rfl,HC.out⟩
theorem YH(a b:Int)(w:World)(ha:aB a)(hb:aB b):Calls Tryz.prog 261 #[.int .i64 18,.int .i32 a,.int .i32 b] w fun e w'=>e=.returned (.tuple #[.int .i32 (AL a b),.bool true])/\ah w w' []:=by
 go_enter Tryz.func261,Tryz.ntmps261
 go_wp2_with fail
 refine(abT a b _ ha hb).mono ?_;rintro e w1 ⟨rfl,hc⟩;have HC:=hide hc;clear hc;go_wp2;go_ret2;exact⟨rfl,HC.out⟩
theorem ape(a b:Int)(w:World)(ha:aB a)(hb:aB b):Calls Tryz.prog 204 #[.int .i64 18,.int .i32 a,.int .i32 b] w fun e w'=>e=.returned (.tuple #[.int .i32 (AL a b),.bool true])/\ah w w' []:=by
 go_enter Tryz.func204,Tryz.ntmps204
 go_wp2_with fail
 refine(YH a b _ ha hb).mono ?_;rintro e w1 ⟨rfl,hc⟩;have HC:=hide hc;clear hc;go_wp2;go_ret2;exact⟨rfl,HC.out⟩
theorem Vm(a b:Int)(w:World)(ha:aB a)(hb:aB b):Calls Tryz.prog 261 #[.int .i64 20,.int .i32 a,.int .i32 b] w fun e w'=>e=.returned (.tuple #[.int .i32 (Jk a b),.bool true])/\ah w w' []:=by
 go_enter Tryz.func261,Tryz.ntmps261
 go_wp2_with fail
 refine(abU a b _ ha hb).mono ?_;rintro e w1 ⟨rfl,hc⟩;have HC:=hide hc;clear hc;go_wp2;go_ret2;exact⟨rfl,HC.out⟩
theorem amy(a b:Int)(w:World)(ha:aB a)(hb:aB b):Calls Tryz.prog 204 #[.int .i64 20,.int .i32 a,.int .i32 b] w fun e w'=>e=.returned (.tuple #[.int .i32 (Jk a b),.bool true])/\ah w w' []:=by
 go_enter Tryz.func204,Tryz.ntmps204
 go_wp2_with fail
 refine(Vm a b _ ha hb).mono ?_;rintro e w1 ⟨rfl,hc⟩;have HC:=hide hc;clear hc;go_wp2;go_ret2;exact⟨rfl,HC.out⟩
theorem abV(a:Int)(w:World)(ha:aB a):Calls Tryz.prog 319 #[.int .i32 a] w fun e w'=>e=.returned (.int .i32 (AA a))/\ah w w' []:=by
 have HC:=hide (ah.refl w []);go_enter Tryz.func319,Tryz.ntmps319
 go_wp2_with fail
 refine(ae1 a _ ha).mono ?_;rintro e w1 ⟨rfl,rfl⟩;go_wp2;go_ret;exact⟨rfl,HC.out⟩
theorem ae2(a:Int)(w:World)(ha:aB a):Calls Tryz.prog 318 #[.func (.func 319) #[] #[],.int .i32 a] w fun e w'=>e=.returned (.tuple #[.int .i32 (AA a),.bool true])/\ah w w' []:=by
 go_enter Tryz.func318,Tryz.ntmps318
 go_wp2_with fail
 refine(abV a _ ha).mono ?_;rintro e w1 ⟨rfl,hc⟩;have HC:=hide hc;clear hc;go_wp2;go_ret2;exact⟨rfl,HC.out⟩
theorem ae3(a:Int)(w:World)(ha:aB a):Calls Tryz.prog 298 #[.int .i64 24,.int .i32 a] w fun e w'=>e=.returned (.tuple #[.int .i32 (AA a),.bool true])/\ah w w' []:=by
 go_enter Tryz.func298,Tryz.ntmps298
 go_wp2_with fail
 refine(ae2 a _ ha).mono ?_;rintro e w1 ⟨rfl,hc⟩;have HC:=hide hc;clear hc;go_wp2;go_ret2;exact⟨rfl,HC.out⟩
theorem YI(a b:Int)(w:World)(ha:aB a)(hb:aB b):Calls Tryz.prog 261 #[.int .i64 24,.int .i32 a,.int .i32 b] w fun e w'=>e=.returned (.tuple #[.int .i32 (AA a),.bool true])/\ah w w' []:=by
 go_enter Tryz.func261,Tryz.ntmps261
 go_wp2_with fail
 refine(ae3 a _ ha).mono ?_;rintro e w1 ⟨rfl,hc⟩;have HC:=hide hc;clear hc;go_wp2;go_ret2;exact⟨rfl,HC.out⟩
theorem apf(a b:Int)(w:World)(ha:aB a)(hb:aB b):Calls Tryz.prog 204 #[.int .i64 24,.int .i32 a,.int .i32 b] w fun e w'=>e=.returned (.tuple #[.int .i32 (AA a),.bool true])/\ah w w' []:=by
 go_enter Tryz.func204,Tryz.ntmps204
 go_wp2_with fail
 refine(YI a b _ ha hb).mono ?_;rintro e w1 ⟨rfl,hc⟩;have HC:=hide hc;clear hc;go_wp2;go_ret2;exact⟨rfl,HC.out⟩
theorem abW(a:Int)(w:World)(ha:aB a):Calls Tryz.prog 320 #[.int .i32 a] w fun e w'=>e=.returned (.int .i32 (yE a))/\ah w w' []:=by
 go_enter Tryz.func320,Tryz.ntmps320
 go_wp2_with fail
 refine(NK a _ ha).mono ?_;rintro e w1 ⟨rfl,hc⟩;have HC:=hide hc;clear hc;go_wp2;go_ret;exact⟨rfl,HC.out⟩
theorem ae4(a:Int)(w:World)(ha:aB a):Calls Tryz.prog 318 #[.func (.func 320) #[] #[],.int .i32 a] w fun e w'=>e=.returned (.tuple #[.int .i32 (yE a),.bool true])/\ah w w' []:=by
 go_enter Tryz.func318,Tryz.ntmps318
 go_wp2_with fail
 refine(abW a _ ha).mono ?_;rintro e w1 ⟨rfl,hc⟩;have HC:=hide hc;clear hc;go_wp2;go_ret2;exact⟨rfl,HC.out⟩
theorem ae5(a:Int)(w:World)(ha:aB a):Calls Tryz.prog 298 #[.int .i64 25,.int .i32 a] w fun e w'=>e=.returned (.tuple #[.int .i32 (yE a),.bool true])/\ah w w' []:=by
 go_enter Tryz.func298,Tryz.ntmps298
 go_wp2_with fail
 refine(ae4 a _ ha).mono ?_;rintro e w1 ⟨rfl,hc⟩;have HC:=hide hc;clear hc;go_wp2;go_ret2;exact⟨rfl,HC.out⟩
theorem YJ(a b:Int)(w:World)(ha:aB a)(hb:aB b):Calls Tryz.prog 261 #[.int .i64 25,.int .i32 a,.int .i32 b] w fun e w'=>e=.returned (.tuple #[.int .i32 (yE a),.bool true])/\ah w w' []:=by
 go_enter Tryz.func261,Tryz.ntmps261
 go_wp2_with fail
 refine(ae5 a _ ha).mono ?_;rintro e w1 ⟨rfl,hc⟩;have HC:=hide hc;clear hc;go_wp2;go_ret2;exact⟨rfl,HC.out⟩
theorem apg(a b:Int)(w:World)(ha:aB a)(hb:aB b):Calls Tryz.prog 204 #[.int .i64 25,.int .i32 a,.int .i32 b] w fun e w'=>e=.returned (.tuple #[.int .i32 (yE a),.bool true])/\ah w w' []:=by
 go_enter Tryz.func204,Tryz.ntmps204
 go_wp2_with fail
 refine(YJ a b _ ha hb).mono ?_;rintro e w1 ⟨rfl,hc⟩;have HC:=hide hc;clear hc;go_wp2;go_ret2;exact⟨rfl,HC.out⟩
theorem abX(a:Int)(w:World)(ha:aB a):Calls Tryz.prog 321 #[.int .i32 a] w fun e w'=>e=.returned (.int .i32 (Az a))/\ah w w' []:=by
 go_enter Tryz.func321,Tryz.ntmps321
 go_wp2_with fail
 refine(abS a _ ha).mono ?_;rintro e w1 ⟨rfl,hc⟩;have HC:=hide hc;clear hc;go_wp2;go_ret;exact⟨rfl,HC.out⟩
theorem ae6(a:Int)(w:World)(ha:aB a):Calls Tryz.prog 318 #[.func (.func 321) #[] #[],.int .i32 a] w fun e w'=>e=.returned (.tuple #[.int .i32 (Az a),.bool true])/\ah w w' []:=by
 go_enter Tryz.func318,Tryz.ntmps318
 go_wp2_with fail
 refine(abX a _ ha).mono ?_;rintro e w1 ⟨rfl,hc⟩;have HC:=hide hc;clear hc;go_wp2;go_ret2;exact⟨rfl,HC.out⟩
theorem ae7(a:Int)(w:World)(ha:aB a):Calls Tryz.prog 298 #[.int .i64 26,.int .i32 a] w fun e w'=>e=.returned (.tuple #[.int .i32 (Az a),.bool true])/\ah w w' []:=by
 go_enter Tryz.func298,Tryz.ntmps298
 go_wp2_with fail
 refine(ae6 a _ ha).mono ?_;rintro e w1 ⟨rfl,hc⟩;have HC:=hide hc;clear hc;go_wp2;go_ret2;exact⟨rfl,HC.out⟩
theorem YK(a b:Int)(w:World)(ha:aB a)(hb:aB b):Calls Tryz.prog 261 #[.int .i64 26,.int .i32 a,.int .i32 b] w fun e w'=>e=.returned (.tuple #[.int .i32 (Az a),.bool true])/\ah w w' []:=by
 go_enter Tryz.func261,Tryz.ntmps261
 go_wp2_with fail
 refine(ae7 a _ ha).mono ?_;rintro e w1 ⟨rfl,hc⟩;have HC:=hide hc;clear hc;go_wp2;go_ret2;exact⟨rfl,HC.out⟩
theorem aph(a b:Int)(w:World)(ha:aB a)(hb:aB b):Calls Tryz.prog 204 #[.int .i64 26,.int .i32 a,.int .i32 b] w fun e w'=>e=.returned (.tuple #[.int .i32 (Az a),.bool true])/\ah w w' []:=by
 go_enter Tryz.func204,Tryz.ntmps204
 go_wp2_with fail
 refine(YK a b _ ha hb).mono ?_;rintro e w1 ⟨rfl,hc⟩;have HC:=hide hc;clear hc;go_wp2;go_ret2;exact⟨rfl,HC.out⟩
theorem YL(a:Int)(w:World)(ha:aB a):Calls Tryz.prog 323 #[.int .i32 a] w fun e w'=>e=.returned (.int .i32 (zu a))/\ah w w' []:=by
 have HC:=hide (ah.refl w []);go_enter Tryz.func323,Tryz.ntmps323
 go_wp2_with fail
 refine(abO a _).mono ?_;rintro e w1 ⟨rfl,rfl⟩;go_wp2;go_ret;exact⟨rfl,HC.out⟩
theorem abY(a:Int)(w:World)(ha:aB a):Calls Tryz.prog 318 #[.func (.func 323) #[] #[],.int .i32 a] w fun e w'=>e=.returned (.tuple #[.int .i32 (zu a),.bool true])/\ah w w' []:=by
 go_enter Tryz.func318,Tryz.ntmps318
 go_wp2_with fail
 refine(YL a _ ha).mono ?_;rintro e w1 ⟨rfl,hc⟩;have HC:=hide hc;clear hc;go_wp2;go_ret2;exact⟨rfl,HC.out⟩
theorem abZ(a:Int)(w:World)(ha:aB a):Calls Tryz.prog 298 #[.int .i64 28,.int .i32 a] w fun e w'=>e=.returned (.tuple #[.int .i32 (zu a),.bool true])/\ah w w' []:=by
 go_enter Tryz.func298,Tryz.ntmps298
 go_wp2_with fail
 refine(abY a _ ha).mono ?_;rintro e w1 ⟨rfl,hc⟩;have HC:=hide hc;clear hc;go_wp2;go_ret2;exact⟨rfl,HC.out⟩
theorem Vo(a b:Int)(w:World)(ha:aB a)(hb:aB b):Calls Tryz.prog 261 #[.int .i64 28,.int .i32 a,.int .i32 b] w fun e w'=>e=.returned (.tuple #[.int .i32 (zu a),.bool true])/\ah w w' []:=by
 go_enter Tryz.func261,Tryz.ntmps261
 go_wp2_with fail
 refine(abZ a _ ha).mono ?_;rintro e w1 ⟨rfl,hc⟩;have HC:=hide hc;clear hc;go_wp2;go_ret2;exact⟨rfl,HC.out⟩
theorem amA(a b:Int)(w:World)(ha:aB a)(hb:aB b):Calls Tryz.prog 204 #[.int .i64 28,.int .i32 a,.int .i32 b] w fun e w'=>e=.returned (.tuple #[.int .i32 (zu a),.bool true])/\ah w w' []:=by
 go_enter Tryz.func204,Tryz.ntmps204
 go_wp2_with fail
 refine(Vo a b _ ha hb).mono ?_;rintro e w1 ⟨rfl,hc⟩;have HC:=hide hc;clear hc;go_wp2;go_ret2;exact⟨rfl,HC.out⟩
def ET (a b:Int):Int:=min a b
def EU (a b:Int):Int:=max a b
theorem apj(a b:Int)(w:World)(ha:aB a)(hb:aB b):Calls Tryz.prog 204 #[.int .i64 16,.int .i32 a,.int .i32 b] w fun e w'=>e=.returned (.tuple #[.int .i32 (ET a b),.bool true])/\ah w w' []:=by
 have HC:=hide (ah.refl w []);go_enter Tryz.func204,Tryz.ntmps204
 go_wp2;go_ret2;exact⟨rfl,HC.out⟩
theorem apk(a b:Int)(w:World)(ha:aB a)(hb:aB b):Calls Tryz.prog 204 #[.int .i64 17,.int .i32 a,.int .i32 b] w fun e w'=>e=.returned (.tuple #[.int .i32 (EU a b),.bool true])/\ah w w' []:=by
 have HC:=hide (ah.refl w []);go_enter Tryz.func204,Tryz.ntmps204
 go_wp2;go_ret2;exact⟨rfl,HC.out⟩
theorem pI (n:Int):aB (wrap32 n):=by unfold aB wrap32; omega
theorem Ht (n:Int):aB (jZ n):=by unfold aB jZ; omega
theorem apl (a b:Int):aB (PX a b):=pI _
theorem apm (a b:Int):aB (sF a b):=pI _
theorem amB (a b:Int):aB (Ji a b):=Ht _
theorem amC (a b:Int):aB (Jj a b):=Ht _
theorem BP(n:Int):IntKind.i32.wrap n=wrap32 n:=by rw [IntKind.wrap_i32]; unfold wrap32; rfl
theorem apn (a b:Int):aB (uh a b):=by
 show aB (IntKind.i32.wrap _); rw [BP]; exact pI _
theorem atK (a b:Int):aB (BO a b):=by
 show aB (IntKind.i32.wrap _); rw [BP]; exact pI _
theorem apo (a b:Int):aB (LC a b):=by
 show aB (IntKind.i32.wrap _); rw [BP]; exact pI _
theorem apq (a b:Int):aB (LD a b):=by
 show aB (IntKind.i32.wrap _); rw [BP]; exact pI _
theorem ae8 (a b:Int):aB (ug a b):=pI _
theorem apr (a b:Int):aB (wI a b):=pI _
theorem Vp (a b:Int) (h:aB a):aB (wH a b):=by
 unfold aB wH at *
 have h2:(1:Int)<=2 ^ sh b:=by
  have:=Nat.one_le_two_pow (n:=sh b)
  exact_mod_cast this
 generalize (2:Int) ^ sh b=d at *;constructor
 . rw [Int.le_ediv_iff_mul_le (by omega)]
   have:(2147483648:Int)*1<=2147483648*d:=Int.mul_le_mul_of_nonneg_left h2 (by omega);omega
 . exact Int.ediv_le_of_le_mul (by omega) (by
    have:(2147483647:Int)*1<=2147483647*d:=Int.mul_le_mul_of_nonneg_left h2 (by omega)
    omega)
theorem in_lt(a b:Int):aB (Ar a b):=by unfold aB Ar; split<;>omega
theorem aps(a b:Int):aB (mV a b):=by unfold aB mV; split<;>omega
theorem atL(a b:Int):aB (DU a b):=by unfold aB DU; split<;>omega
theorem apt (a b:Int):aB (AL a b):=pI _
theorem amD (a b:Int):aB (Jk a b):=Ht _
theorem ae9 (a:Int):aB (yE a):=Ht _
theorem apu (a:Int) (h:aB a):aB (Az a):=by have:=ae9 a; unfold aB Az at *; omega
theorem amE (a:Int) (h:aB a):aB (zu a):=by unfold aB zu at *; omega
theorem apv (a:Int):aB (AA a):=by
 have:=Any.bitLen_le32 (a%4294967296) (by omega) (by omega);unfold aB AA; omega
theorem apw (a b:Int) (ha:aB a) (hb:aB b):aB (ET a b):=by unfold aB ET at *; omega
theorem apx (a b:Int) (ha:aB a) (hb:aB b):aB (EU a b):=by unfold aB EU at *; omega
structure Wd where
 v:Int
 ok:aB v
theorem Wd.dw{a b:Wd}(h:a.v=b.v):a=b:=by cases a; cases b; cases h; rfl
def kW (n:Int):Wd:=⟨wrap32 n,pI n⟩
theorem jl{n:Int}(h:aB n):(kW n).v=n:=by show wrap32 n=n; unfold aB at h; unfold wrap32; omega
def Dh (a b:Wd):Wd:=⟨PX a.v b.v,apl _ _⟩
def uV (a b:Wd):Wd:=⟨sF a.v b.v,apm _ _⟩
def gV (a b:Wd):Wd:=⟨Ji a.v b.v,amB _ _⟩
def rP (a b:Wd):Wd:=⟨Jj a.v b.v,amC _ _⟩
def iH (a b:Wd):Wd:=⟨uh a.v b.v,apn _ _⟩
def Ko (a b:Wd):Wd:=⟨BO a.v b.v,atK _ _⟩
def yG (a b:Wd):Wd:=⟨LC a.v b.v,apo _ _⟩
def VT (a b:Wd):Wd:=⟨LD a.v b.v,apq _ _⟩
def nP (a b:Wd):Wd:=⟨ug a.v b.v,ae8 _ _⟩
def wK (a b:Wd):Wd:=⟨wI a.v b.v,apr _ _⟩
def wL (a b:Wd):Wd:=⟨wH a.v b.v,Vp _ _ a.ok⟩
def H6 (a b:Wd):Wd:=⟨Ar a.v b.v,in_lt _ _⟩
def Jo (a b:Wd):Wd:=⟨mV a.v b.v,aps _ _⟩
def VU (a b:Wd):Wd:=⟨AL a.v b.v,apt _ _⟩
def aP (a b:Wd):Wd:=⟨Jk a.v b.v,amD _ _⟩
def Di (a b:Wd):Wd:=⟨ET a.v b.v,apw _ _ a.ok b.ok⟩
def AQ (a b:Wd):Wd:=⟨EU a.v b.v,apx _ _ a.ok b.ok⟩
def jI (a:Wd):Wd:=⟨AA a.v,apv _⟩
def j_ (a:Wd):Wd:=⟨yE a.v,ae9 _⟩
def iT (a:Wd):Wd:=⟨Az a.v,apu _ a.ok⟩
def qh (a:Wd):Wd:=⟨zu a.v,amE _ a.ok⟩
def H7 (m a b:Wd):Wd:=Ko (iH a m) (VT b m)
def xk (x m:Wd):Wd:=uV (yG x m) m
def BR (a:Wd) (n:Int):Wd:=⟨ug a.v n,ae8 _ _⟩
def qj (a:Wd) (n:Int):Wd:=⟨wH a.v n,Vp _ _ a.ok⟩
def dK (a b c:Wd):Wd:=Dh (Dh (VU a a) (VU b b)) (VU c c)
def rQ (n low high:Wd):Wd:=uV (Ko (Jo n low) (Jo high n)) (kW 1)
def gW (x z h:Wd):Wd:=nP (aP x z) h
def jL (x:Wd) (l:List Wd):Wd:=l.foldl rP x
def qp (x:Wd) (l:List Wd):Wd:=l.foldl gV x
def jh(x:Wd)(l:List Wd):Wd:=l.foldl (fun s y=>gV s (aP y y)) (aP x x)
structure Tm where
 a:Nat
 b:Nat
 less:Bool
def pick (l:List Wd) (k:Nat):Wd:=l.getD k (kW 0)
def term (ps qs:List Wd) (t:Tm):Wd:=aP (pick ps t.a) (pick qs t.b)
def aw_ (ps qs:List Wd) (s:Wd) (t:Tm):Wd:=bif t.less then rP s (term ps qs t) else gV s (term ps qs t)
def axa (ps qs:List Wd) (t:Tm):Wd:=bif t.less then rP (kW 0) (term ps qs t) else term ps qs t
def xU (ps qs:List Wd) (t:Tm) (l:List Tm):Wd:=l.foldl (aw_ ps qs) (axa ps qs t)
structure Q4 where
 a:Wd
 b:Wd
 c:Wd
 d:Wd
def Oa (a b c d e f g h:Wd):Q4:=⟨xU [a,b,c,d] [e,f,g,h] ⟨0,0,false⟩ [⟨1,1,true⟩,⟨2,2,true⟩,⟨3,3,true⟩],xU [a,b,c,d] [e,f,g,h] ⟨0,1,false⟩ [⟨1,0,false⟩,⟨2,3,false⟩,⟨3,2,true⟩],xU [a,b,c,d] [e,f,g,h] ⟨0,2,false⟩ [⟨1,3,true⟩,⟨2,0,false⟩,⟨3,1,false⟩],xU [a,b,c,d] [e,f,g,h] ⟨0,3,false⟩ [⟨1,2,false⟩,⟨2,1,true⟩,⟨3,0,false⟩]⟩
def xu (a b c d e f g:Wd):Q4:=⟨xU [a,b,c,d] [e,f,g] ⟨1,0,true⟩ [⟨2,1,true⟩,⟨3,2,true⟩],xU [a,b,c,d] [e,f,g] ⟨0,0,false⟩ [⟨2,2,false⟩,⟨3,1,true⟩],xU [a,b,c,d] [e,f,g] ⟨0,1,false⟩ [⟨1,2,true⟩,⟨3,0,false⟩],xU [a,b,c,d] [e,f,g] ⟨0,2,false⟩ [⟨1,1,false⟩,⟨2,0,true⟩]⟩
def Ia (q0 q1 q2 q3 a0:Wd):Wd:=jL (aP q1 q3) [aP q0 q2,qj a0 1]
def Ib (q0 q1 q2 q3 a1:Wd):Wd:=jL (qp (aP q0 q1) [aP q2 q3]) [qj a1 1]
def Ic (q1 q2 a2:Wd):Wd:=jL (kW 536870912) [aP q1 q1,aP q2 q2,qj a2 1]
def afD (q0 q1 q2 q3 f0 f1 f2:Wd):Q4 :=
 ⟨qj (jL (aP q1 f1) [aP q2 f0]) 1,jL (qj (qp (aP q3 f0) [aP q0 f1]) 1) [aP q1 f2],jL (qj (jL (aP q3 f1) [aP q0 f0]) 1) [aP q2 f2],qj (qp (aP q1 f0) [aP q2 f1]) 1⟩
def Oc (q0 q1 q2 q3 a0 a1 a2:Wd):Q4:=afD q0 q1 q2 q3 (Ia q0 q1 q2 q3 a0) (Ib q0 q1 q2 q3 a1) (Ic q1 q2 a2)
structure T3 where
 a:Wd
 b:Wd
 c:Wd
def zL (q0 q1 q2 q3 bx bz f0 f1 f2:Wd):T3 :=
 ⟨jL (qp (aP bx (jL (kW 536870912) [aP q2 q2,aP q3 q3])) [aP bz (jL (aP q1 q3) [aP q0 q2])]) [qj f0 1],
  jL (qp (aP bx (jL (aP q1 q2) [aP q0 q3])) [aP bz (qp (aP q0 q1) [aP q2 q3])]) [qj f1 1],
  jL (qp (aP bx (qp (aP q0 q2) [aP q1 q3])) [aP bz (jL (kW 536870912) [aP q1 q1,aP q2 q2])]) [qj f2 1]⟩
def Wx (u y:Wd):Wd:=gV y (qj (aP y (rP (kW 1073741824) (BR (aP u (aP y y)) 2))) 1)
def TN (x:Wd):Wd:=iH (jI x) (kW 30)
def Oe (x:Wd):Wd:=wK (nP x (TN x)) (kW 2)
def aqw (u:Wd):Wd:=rP (kW 1184766729) (aP (kW 715827883) u)
def TP (u:Wd):Nat->Wd
 | 0=>aqw u
 | k+1=>Wx u (TP u k)
def dB(x:Wd):Wd×Wd:=(TP (Oe x) 4,wK (TN x) (kW 1))
def B_ (x:Wd):Wd:=gW x (dB x).1 (dB x).2
def mG (x0 x1 x2:Wd):T3:=⟨gW (BR x0 15) (dB (dK x0 x1 x2)).1 (dB (dK x0 x1 x2)).2,gW (BR x1 15) (dB (dK x0 x1 x2)).1 (dB (dK x0 x1 x2)).2,gW (BR x2 15) (dB (dK x0 x1 x2)).1 (dB (dK x0 x1 x2)).2⟩
def TQ (x0 x1 x2 x3:Wd):Q4:=⟨gW x0 (dB (gV (jh x0 [x1,x2,x3]) (kW 1024))).1 (dB (gV (jh x0 [x1,x2,x3]) (kW 1024))).2,gW x1 (dB (gV (jh x0 [x1,x2,x3]) (kW 1024))).1 (dB (gV (jh x0 [x1,x2,x3]) (kW 1024))).2,gW x2 (dB (gV (jh x0 [x1,x2,x3]) (kW 1024))).1 (dB (gV (jh x0 [x1,x2,x3]) (kW 1024))).2,gW x3 (dB (gV (jh x0 [x1,x2,x3]) (kW 1024))).1 (dB (gV (jh x0 [x1,x2,x3]) (kW 1024))).2⟩
def sumW (a b c e0 e1 e2:Wd):Wd:=qj (qp (aP a e0) [aP b e1,aP c e2]) 1
def xW (q0 q1 q2 q3 f0 f1 f2:Wd):Q4:=Oa (xu q0 q1 q2 q3 f0 f1 f2).a (xu q0 q1 q2 q3 f0 f1 f2).b (xu q0 q1 q2 q3 f0 f1 f2).c (xu q0 q1 q2 q3 f0 f1 f2).d q0 (j_ q1) (j_ q2) (j_ q3)
def DZ (q0 q1 q2 q3 f0 f1 f2:Wd):Wd:=B_ (jh (xW q0 q1 q2 q3 f0 f1 f2).b [(xW q0 q1 q2 q3 f0 f1 f2).c])
def D5 (q0 q1 q2 q3 f0 f1 f2:Wd):Wd:=(xW q0 q1 q2 q3 f0 f1 f2).d
def afE (q0 q1 q2 q3 f0 f1 f2:Wd):T3:=zL q0 q1 q2 q3 (DZ q0 q1 q2 q3 f0 f1 f2) (D5 q0 q1 q2 q3 f0 f1 f2) f0 f1 f2
def afF (q0 q1 q2 q3 f0 f1 f2:Wd):Q4:=⟨aP (DZ q0 q1 q2 q3 f0 f1 f2) q0,aP (DZ q0 q1 q2 q3 f0 f1 f2) q1,aP (DZ q0 q1 q2 q3 f0 f1 f2) q2,aP (DZ q0 q1 q2 q3 f0 f1 f2) q3⟩
def afG (q0 q1 q2 q3 f0 f1 f2:Wd):Q4:=⟨aP (D5 q0 q1 q2 q3 f0 f1 f2) q0,aP (D5 q0 q1 q2 q3 f0 f1 f2) q1,aP (D5 q0 q1 q2 q3 f0 f1 f2) q2,aP (D5 q0 q1 q2 q3 f0 f1 f2) q3⟩
def nC (x y:Q4) (e:T3):Q4 :=
 ⟨sumW (j_ y.c) (jL y.b [x.d]) x.c e.a e.b e.c,
  sumW y.d (qp x.c [y.a]) (jL x.d [y.b,y.b]) e.a e.b e.c,
  sumW (j_ (qp x.c [x.c,y.a])) (qp x.b [y.d]) (jL x.a [y.c,y.c]) e.a e.b e.c,
  sumW (jL y.b [x.d,x.d]) (jL y.c [x.a]) x.b e.a e.b e.c⟩
def Ie (q0 q1 q2 q3 f0 f1 f2:Wd):Q4:=nC (afF q0 q1 q2 q3 f0 f1 f2) (afG q0 q1 q2 q3 f0 f1 f2) (afE q0 q1 q2 q3 f0 f1 f2)
def Wy:List Wd:=[kW 421657428,kW 248918915,kW 131521918,kW 66762579,kW 33510843,kW 16771758,kW 8387925,kW 4194219,kW 2097141,kW 1048575,kW 524288,kW 262144,kW 131072,kW 65536,kW 32768,kW 16384,kW 8192,kW 4096,kW 2048,kW 1024,kW 512,kW 256,kW 128,kW 64,kW 32,kW 16,kW 8,kW 4]
def afH (v s:Wd):Wd:=wK (nP v s) (kW 2)
def WA (i:Nat) (x y c:Wd):T3:=⟨Dh x (xk (wL y (kW i)) (qh y)),uV y (xk (wL x (kW i)) (qh y)),Dh c (xk (Wy.getD i (kW 0)) (qh y))⟩
def tN (x y:Wd):Nat->T3
 | 0=>⟨x,y,kW 0⟩
 | i+1=>WA i (tN x y i).a (tN x y i).b (tN x y i).c
def afI (y x:Wd):T3:=tN (afH (AQ (iT x) (iT y)) (uV (jI (AQ (iT x) (iT y))) (kW 1))) (afH (Di (iT x) (iT y)) (uV (jI (AQ (iT x) (iT y))) (kW 1))) 28
def WB (y x c:Wd):Wd:=H7 (j_ (H6 (iT x) (iT y))) (uV (kW 843314857) c) c
def WC (x b:Wd):Wd:=H7 (qh x) (uV (kW 1686629713) b) b
def afJ (y x:Wd):Wd:=WB y x (afI y x).c
def afK (y x:Wd):Wd:=WC x (afJ y x)
def AZ (y x:Wd):Wd:=xk (afK y x) (qh y)
def Jt (q0 q1 q2 q3:Wd):Wd:=qp (aP q0 q1) [aP q2 q3]
def Ju (q0 q1 q2 q3:Wd):Wd:=jL (kW 536870912) [aP q1 q1,aP q2 q2]
def rU (q0 q1 q2 q3:Wd):Wd:=jL (aP q0 q2) [aP q3 q1]
def Z5 (q0 q1 q2 q3:Wd):Wd:=qp (aP q0 q3) [aP q1 q2]
def Z7 (q0 q1 q2 q3:Wd):Wd:=jL (kW 536870912) [aP q2 q2,aP q3 q3]
def Z8 (q0 q1 q2 q3:Wd):Wd:=B_ (jh (Ju q0 q1 q2 q3) [Jt q0 q1 q2 q3])
def gQ (q0 q1 q2 q3:Wd):T3:=⟨AZ (Jt q0 q1 q2 q3) (Ju q0 q1 q2 q3),AZ (rU q0 q1 q2 q3) (Z8 q0 q1 q2 q3),AZ (Z5 q0 q1 q2 q3) (Z7 q0 q1 q2 q3)⟩
def kQ (q0 q1 q2 q3:Wd):Wd:=uV (H6 (iT (rU q0 q1 q2 q3)) (kW 536000000)) (kW 1)
def Og (x0 x1 x2 x3:Wd):Q4:=⟨gW x0 (dB (jh x0 [x1,x2,x3])).1 (dB (jh x0 [x1,x2,x3])).2,gW x1 (dB (jh x0 [x1,x2,x3])).1 (dB (jh x0 [x1,x2,x3])).2,gW x2 (dB (jh x0 [x1,x2,x3])).1 (dB (jh x0 [x1,x2,x3])).2,gW x3 (dB (jh x0 [x1,x2,x3])).1 (dB (jh x0 [x1,x2,x3])).2⟩
def alf (x:Wd):Wd:=Di (AQ x (kW (-134217728))) (kW 134217728)
def Jv (q r b ga:Wd):Wd:=gV q (alf (rP r (iH (qj b 8) ga)))
def nT (a0 a1 a2:Wd):Wd:=rQ (dK a0 a1 a2) (kW 16777216) (kW 150994944)
def nU (m0 m1 m2:Wd):Wd:=rQ (dK m0 m1 m2) (kW 1000000) (kW 400000000)
def Z9 (q0 q1 q2 q3 a0 a1 a2:Wd):Q4:=Oc q0 q1 q2 q3 (mG a0 a1 a2).a (mG a0 a1 a2).b (mG a0 a1 a2).c
def Z_ (q0 q1 q2 q3 m0 m1 m2:Wd):Q4:=Ie q0 q1 q2 q3 (mG m0 m1 m2).a (mG m0 m1 m2).b (mG m0 m1 m2).c
def WE (P N:Q4) (gm:Wd):Q4:=⟨gV P.a (iH N.a gm),gV P.b (iH N.b gm),gV P.c (iH N.c gm),gV P.d (iH N.d gm)⟩
def afL (D:Q4):Q4:=TQ D.a D.b D.c D.d
def afM (q0 q1 q2 q3 g0 g1 g2:Wd):Q4:=xu q0 q1 q2 q3 (BR g0 12) (BR g1 12) (BR g2 12)
def stepOf (q0 q1 q2 q3:Wd) (R E:Q4) (ga:Wd):Q4:=Og (Jv q0 R.a E.a ga) (Jv q1 R.b E.b ga) (Jv q2 R.c E.c ga) (Jv q3 R.d E.d ga)
def aac (q0 q1 q2 q3 a0 a1 a2 m0 m1 m2:Wd):Q4:=afL (WE (Z9 q0 q1 q2 q3 a0 a1 a2) (Z_ q0 q1 q2 q3 m0 m1 m2) (nU m0 m1 m2))
def zM (q0 q1 q2 q3 g0 g1 g2 a0 a1 a2 m0 m1 m2:Wd):Q4:=stepOf q0 q1 q2 q3 (afM q0 q1 q2 q3 g0 g1 g2) (aac q0 q1 q2 q3 a0 a1 a2 m0 m1 m2) (nT a0 a1 a2)
end

section
open Go.RowKit
theorem Xh:BitVec.ofInt 32 (-1)=BitVec.allOnes 32:=by decide
theorem Eb:BitVec.ofInt 32 0=0#32:=by decide
theorem aaA{x:Int}(h:aB x):uh x (-1)=x:=by
 show IntKind.i32.wrap ((BitVec.ofInt 32 x &&& BitVec.ofInt 32 (-1)).toNat:Int)=_;rw [Xh,BitVec.and_allOnes,IntKind.wrap_i32,BitVec.toNat_ofInt];unfold aB at h;omega
theorem Xj(x:Int):uh x 0=0:=by
 show IntKind.i32.wrap ((BitVec.ofInt 32 x &&& BitVec.ofInt 32 0).toNat:Int)=_;rw [Eb,BitVec.and_zero];decide
theorem or_none{x:Int}(h:aB x):BO x 0=x:=by
 show IntKind.i32.wrap ((BitVec.ofInt 32 x ||| BitVec.ofInt 32 0).toNat:Int)=_;rw [Eb,BitVec.or_zero,IntKind.wrap_i32,BitVec.toNat_ofInt];unfold aB at h;omega
theorem none_or{x:Int}(h:aB x):BO 0 x=x:=by
 show IntKind.i32.wrap ((BitVec.ofInt 32 0 ||| BitVec.ofInt 32 x).toNat:Int)=_;rw [Eb,BitVec.zero_or,IntKind.wrap_i32,BitVec.toNat_ofInt];unfold aB at h;omega
theorem aji{x:Int}(h:aB x):LC x 0=x:=by
 show IntKind.i32.wrap ((BitVec.ofInt 32 x ^^^ BitVec.ofInt 32 0).toNat:Int)=_;rw [Eb,BitVec.xor_zero,IntKind.wrap_i32,BitVec.toNat_ofInt];unfold aB at h;omega
theorem anv{x:Int}(h:aB x):LC x (-1)=-x - 1:=by
 show IntKind.i32.wrap ((BitVec.ofInt 32 x ^^^ BitVec.ofInt 32 (-1)).toNat:Int)=_;rw [Xh,BitVec.xor_allOnes,IntKind.wrap_i32,BitVec.toNat_not,BitVec.toNat_ofInt];unfold aB at h;omega
theorem ajj{x:Int}(h:aB x):LD x 0=x:=by
 show IntKind.i32.wrap ((BitVec.ofInt 32 x &&& ~~~BitVec.ofInt 32 0).toNat:Int)=_;rw [Eb,BitVec.not_zero,BitVec.and_allOnes,IntKind.wrap_i32,BitVec.toNat_ofInt];unfold aB at h;omega
theorem anw{x:Int}(h:aB x):LD x (-1)=0:=by
 show IntKind.i32.wrap ((BitVec.ofInt 32 x &&& ~~~BitVec.ofInt 32 (-1)).toNat:Int)=_;rw [Xh,BitVec.not_allOnes,BitVec.and_zero];decide
theorem wR{y:Wd}(h:0<=y.v):qh y=kW 0:=Wd.dw (by
 have:=y.ok; unfold aB at this;show y.v / 2147483648=(kW 0).v
 rw [jl (by decide)]; omega)
theorem sign_neg{y:Wd}(h:y.v<0):qh y=kW (-1):=Wd.dw (by
 have:=y.ok; unfold aB at this;show y.v / 2147483648=(kW (-1)).v
 rw [jl (by decide)]; omega)
theorem Cj(x:Wd):xk x (kW 0)=x:=Wd.dw (by
 have:=x.ok;show wrap32 (LC x.v (kW 0).v - (kW 0).v)=x.v;rw [jl (by decide),aji this]
 unfold aB at this; unfold wrap32; omega)
theorem JD(a b:Wd):H7 (kW (-1)) a b=a:=Wd.dw (by
 show BO (uh a.v (kW (-1)).v) (LD b.v (kW (-1)).v)=a.v
 rw [jl (by decide),aaA a.ok,anw b.ok,or_none a.ok])
theorem FP(a b:Wd):H7 (kW 0) a b=b:=Wd.dw (by
 show BO (uh a.v (kW 0).v) (LD b.v (kW 0).v)=b.v
 rw [jl (by decide),Xj,ajj b.ok,none_or b.ok])
theorem anx{a b:Wd}(h:a.v<b.v):j_ (H6 a b)=kW (-1):=Wd.dw (by
 show jZ (-(if a.v<b.v then 1 else 0))=_
 rw [if_pos h]; decide +kernel)
theorem ard{a b:Wd}(h:b.v<=a.v):j_ (H6 a b)=kW 0:=Wd.dw (by
 show jZ (-(if a.v<b.v then 1 else 0))=_
 rw [if_neg (by omega)]; decide +kernel)
end

section
open Go.RowKit Go.Deep
theorem Xq{x n:Int}(hn:0<n):x%n=if x.tmod n<0 then x.tmod n+n else x.tmod n:=by
 rw [Int.tmod_eq_emod];have h1:=Int.emod_nonneg x (by omega:n≠0);have h2:=Int.emod_lt_of_pos x hn;split<;>split<;>omega
theorem xZ(x n:Int)(w:World)(hx:-9223372036854775808<=x/\x<=9223372036854775807)(hn:0<n/\n<=9223372036854775807) :
 Calls Tryz.prog 138 #[.int .i64 x,.int .i64 n] w fun e w'=>e=.returned (.int .i64 (x%n))/\w=w':=by
 have hm:=@Xq x n hn.1;have h1:=Int.emod_nonneg x (by omega:n≠0);have h2:=Int.emod_lt_of_pos x hn.1;by_cases h0:x.tmod n<0
 . rw [if_pos h0] at hm
   go_enter Tryz.func138,Tryz.ntmps138
   go_wp2_with fail
   go_ret;exact⟨by first | rfl | (rw [hm]; rfl),rfl⟩
 . rw [if_neg h0] at hm
   go_enter Tryz.func138,Tryz.ntmps138
   go_wp2_with fail
   go_ret;exact⟨by first | rfl | (rw [hm]; rfl),rfl⟩
theorem Xr (x:Int) (w:World) (hx:-9223372036854775808<=x/\x<=9223372036854775807) :
 Calls Tryz.prog 79 #[.int .i64 x,.int .i64 32] w fun e w'=>e=.returned (.int .i64 (wrap32 x))/\w=w':=by
 go_enter Tryz.func79,Tryz.ntmps79
 go_wp2_with fail
 go_loopw [5,6] (fun m i wr=>∃ k:Nat,k<=32/\i=.int .i64 k/\m=.int .i64 ((2:Int) ^ k)/\w=wr) (fun m i _=>32 - (intOf i).toNat)
 case atStart=>exact⟨0,by omega,rfl,rfl,rfl⟩
 case round =>
  obtain⟨k,hk,rfl,rfl,rfl⟩:=hrel;by_cases hlt:k<32
  . have hp : (2 : Int) ^ k<=2147483648 := by
     have:(2:Int) ^ k<=2 ^ 31:=by exact_mod_cast Nat.pow_le_pow_right (by omega:1<=2) (by omega:k<=31)
     simpa using this
    have hq:0<(2:Int) ^ k:=Int.pow_pos (by omega);have hs:(2:Int)*2 ^ k=2 ^ (k+1):=by rw [Int.pow_succ,Int.mul_comm]
    generalize hP:(2:Int) ^ k=p at *;go_wp2_with fail
    go_roundw
    case rel=>exact⟨k+1,by omega,by go_num,by first | rfl | rw [hs],by trivial⟩
    case measure=>simp [intOf]; omega
  . obtain rfl:k=32:=by omega
    go_wp2_with fail
    refine(xZ x 4294967296 _ hx (by omega)).mono ?_;rintro e w' ⟨rfl,rfl⟩;by_cases hg:2147483648<=x%4294967296
    . have hw:wrap32 x=x%4294967296 - 4294967296:=by unfold wrap32; omega
      have hb:x%4294967296<4294967296:=by omega
      generalize x%4294967296=y at *;go_wp2;go_ret;exact⟨by rw [hw]; rfl,rfl⟩
    . have hw:wrap32 x=x%4294967296:=by unfold wrap32; omega
      have hb:0<=x%4294967296:=by omega
      generalize x%4294967296=y at *;go_wp2;go_ret;exact⟨by rw [hw]; rfl,rfl⟩
theorem yc (x:Int) (w:World) (hx:-9223372036854775808<=x/\x<=9223372036854775807) :
 Calls Tryz.prog 78 #[.int .i64 x] w fun e w'=>e=.returned (.int .i32 (wrap32 x))/\w=w':=by
 have hb:-2147483648<=wrap32 x/\wrap32 x<=2147483647:=by unfold wrap32; omega
 go_enter Tryz.func78,Tryz.ntmps78
 go_wp2_with fail
 refine(Xr x _ hx).mono ?_;rintro e w' ⟨rfl,rfl⟩;generalize hy:wrap32 x=y at *;go_wp2;go_ret;refine⟨?_,rfl⟩
 first | rfl | (rw [hy]; rfl)
theorem sW (x:Int) (w:World) (hx:-2147483648<=x/\x<=2147483647) :
 Calls Tryz.prog 242 #[.int .i32 x] w fun e w'=>e=.returned (.int .i64 (x%4294967296))/\w=w':=by
 go_enter Tryz.func242,Tryz.ntmps242
 go_wp2_with fail
 refine(xZ x 4294967296 _ (by omega) (by omega)).mono ?_;rintro e w' ⟨rfl,rfl⟩;go_wp2;go_ret;exact⟨rfl,rfl⟩
theorem wrap32_in (x:Int):-2147483648<=wrap32 x/\wrap32 x<=2147483647:=by unfold wrap32; omega
theorem adl(x:Int)(h:-2147483648<=x/\x<=2147483647):-9223372036854775808<=x*x/\x*x<=9223372036854775807:=by
 have h1:x*x=(x.natAbs*x.natAbs:Nat):=by rw [Int.natAbs_mul_self]
 have h2:x.natAbs*x.natAbs<=2147483648*2147483648:=Nat.mul_le_mul (by omega) (by omega);omega
def pq(x:Int):Int:=wrap32 (x*x)%4294967296
theorem adn(x:Int):0<=pq x/\pq x<4294967296:=by unfold pq; omega
def uG(a b c:Int):Int:=wrap32 (pq a+pq b+pq c)
theorem Gv (a b c:Int) (w:World) (ha:-2147483648<=a/\a<=2147483647) (hb:-2147483648<=b/\b<=2147483647) (hc:-2147483648<=c/\c<=2147483647) :
 Calls Tryz.prog 188 #[.agg #[.int .i32 a,.int .i32 b,.int .i32 c]] w fun e w'=>e=.returned (.int .i32 (uG a b c))/\ah w w' []:=by
 have k0:=aC.new w 56 [.int .i32 a,.int .i32 b,.int .i32 c];have m0:=k0;have ajQ:=m0.cell' (i:=0) rfl;have ajR:=m0.cell' (i:=1) rfl;have ajS:=m0.cell' (i:=2) rfl;have HC:=hide ((ah.refl w []).alloc (.cells #[.int .i32 a,.int .i32 b,.int .i32 c] 56));clear k0;have HR:=hide m0;clear m0;go_enter Tryz.func188,Tryz.ntmps188
 go_wp2_with fail
 generalize hw5:(w.alloc (.cells #[.int .i32 a,.int .i32 b,.int .i32 c] 56))=w5 at *;clear hw5;go_loopw [3,4] (fun n i wr=>∃ k:Nat,k<=3/\i=.int .i64 k/\n=.int .i64 ([0,pq a,pq a+pq b,pq a+pq b+pq c].getD k 0)/\Hid (aC wr w.heap.size 56 [.int .i32 a,.int .i32 b,.int .i32 c])/\Hid (ah w wr [])) (fun _ i _=>3 - (intOf i).toNat)
 case atStart=>exact⟨0,by omega,rfl,rfl,HR,HC⟩
 case round =>
  clear HR HC;obtain⟨k,hk,rfl,rfl,HB,HK⟩:=hrel;have sa:=adn a;have sb:=adn b;have sc:=adn c;rcases (by omega:k=0\/k=1\/k=2\/k=3) with rfl | rfl | rfl | rfl
  . have x0:=HB.out.cell' (i:=0) rfl
    have hm:=adl a ha;simp only [List.getD_cons_zero];have e1:IntKind.i64.wrap a=a:=by rw [IntKind.wrap_i64]; omega
    have e2:IntKind.i64.wrap (a*a)=a*a:=by rw [IntKind.wrap_i64]; omega
    go_wp2_with fail
    go_region_with (first | (go_at_call 78; refine(yc (a*a) _ hm).mono ?_; rintro e w9 ⟨rfl,rfl⟩) | (go_at_call 242; refine(sW (wrap32 (a*a)) _ (wrap32_in _)).mono ?_; rintro e w9 ⟨rfl,rfl⟩))
    all_goals
     go_wp2;go_roundw
     case rel=>exact⟨1,by omega,by go_num,by first | rfl | (simp [pq]; done) | (simp [pq]; omega),hide (HB.out.drew),hide (HK.out.drew)⟩
     case measure=>simp [intOf]
  . have x0:=HB.out.cell' (i:=1) rfl
    have hm:=adl b hb;simp only [List.getD_cons_zero,List.getD_cons_succ];have e1:IntKind.i64.wrap b=b:=by rw [IntKind.wrap_i64]; omega
    have e2:IntKind.i64.wrap (b*b)=b*b:=by rw [IntKind.wrap_i64]; omega
    go_wp2_with fail
    go_region_with (first | (go_at_call 78; refine(yc (b*b) _ hm).mono ?_; rintro e w9 ⟨rfl,rfl⟩) | (go_at_call 242; refine(sW (wrap32 (b*b)) _ (wrap32_in _)).mono ?_; rintro e w9 ⟨rfl,rfl⟩))
    all_goals
     go_wp2;go_roundw
     case rel=>exact⟨2,by omega,by go_num,by first | rfl | (simp [pq]; done) | (simp [pq]; omega),hide (HB.out.drew),hide (HK.out.drew)⟩
     case measure=>simp [intOf]
  . have x0:=HB.out.cell' (i:=2) rfl
    have hm:=adl c hc;simp only [List.getD_cons_zero,List.getD_cons_succ];have e1:IntKind.i64.wrap c=c:=by rw [IntKind.wrap_i64]; omega
    have e2:IntKind.i64.wrap (c*c)=c*c:=by rw [IntKind.wrap_i64]; omega
    go_wp2_with fail
    go_region_with (first | (go_at_call 78; refine(yc (c*c) _ hm).mono ?_; rintro e w9 ⟨rfl,rfl⟩) | (go_at_call 242; refine(sW (wrap32 (c*c)) _ (wrap32_in _)).mono ?_; rintro e w9 ⟨rfl,rfl⟩))
    all_goals
     go_wp2;go_roundw
     case rel=>exact⟨3,by omega,by go_num,by first | rfl | (simp [pq]; done) | (simp [pq]; omega),hide (HB.out.drew),hide (HK.out.drew)⟩
     case measure=>simp [intOf]
  . simp only [List.getD_cons_zero,List.getD_cons_succ]
    go_wp2_with fail
    refine(yc (pq a+pq b+pq c) _ (by omega)).mono ?_;rintro e w9 ⟨rfl,rfl⟩;have hw:=wrap32_in (pq a+pq b+pq c);go_wp2;go_ret;exact⟨rfl,HK.out⟩
def inside(lo hi a b c:Int):Bool:=decide (lo<=uG a b c%4294967296)&&decide (uG a b c%4294967296<=hi)
theorem Gw (a b c lo hi:Int) (w:World) (ha:-2147483648<=a/\a<=2147483647) (hb:-2147483648<=b/\b<=2147483647) (hc:-2147483648<=c/\c<=2147483647) :
 Calls Tryz.prog 190 #[.agg #[.int .i32 a,.int .i32 b,.int .i32 c],.int .i64 lo,.int .i64 hi] w fun e w'=>e=.returned (.bool (inside lo hi a b c))/\ah w w' []:=by
 have k0:=aC.new w 56 [.int .i32 a,.int .i32 b,.int .i32 c];have m0:=k0;have ajQ:=m0.cell' (i:=0) rfl;have ajR:=m0.cell' (i:=1) rfl;have ajS:=m0.cell' (i:=2) rfl;have HC:=hide ((ah.refl w []).alloc (.cells #[.int .i32 a,.int .i32 b,.int .i32 c] 56));clear k0;clear m0;go_enter Tryz.func190,Tryz.ntmps190
 go_wp2_with fail
 generalize hw5:(w.alloc (.cells #[.int .i32 a,.int .i32 b,.int .i32 c] 56))=w5 at *;clear hw5;refine(Gv a b c _ ha hb hc).mono ?_;rintro e w6 ⟨rfl,hx⟩;have qN:=hide (HC.out.trans hx (D:=[]) (by simp));clear hx;go_wp2_with fail
 refine(sW (uG a b c) _ (wrap32_in _)).mono ?_;rintro e w7 ⟨rfl,rfl⟩;generalize hp:uG a b c%4294967296=p at *;by_cases h1:lo<=p
 . have hres:inside lo hi a b c=decide (p<=hi):=by unfold inside; rw [hp]; simp [h1]
   go_wp2;go_ret;exact⟨by first | rfl | (rw [hres]; rfl),qN.out⟩
 . have hres:inside lo hi a b c=false:=by unfold inside; rw [hp]; simp [h1]
   go_wp2;go_ret;exact⟨by first | rfl | (rw [hres]; rfl),qN.out⟩
theorem Qw (a b c:Int) (w:World) (ha:-2147483648<=a/\a<=2147483647) (hb:-2147483648<=b/\b<=2147483647) (hc:-2147483648<=c/\c<=2147483647) :
 Calls Tryz.prog 122 #[.agg #[.int .i32 a,.int .i32 b,.int .i32 c]] w fun e w'=>e=.returned (.bool (inside 16777216 150994944 a b c))/\ah w w' []:=by
 have k0:=aC.new w 56 [.int .i32 a,.int .i32 b,.int .i32 c];have m0:=k0;have ajQ:=m0.cell' (i:=0) rfl;have ajR:=m0.cell' (i:=1) rfl;have ajS:=m0.cell' (i:=2) rfl;have HC:=hide ((ah.refl w []).alloc (.cells #[.int .i32 a,.int .i32 b,.int .i32 c] 56));clear k0;clear m0;go_enter Tryz.func122,Tryz.ntmps122
 go_wp2_with fail
 generalize hw5:(w.alloc (.cells #[.int .i32 a,.int .i32 b,.int .i32 c] 56))=w5 at *;clear hw5;refine(Gw a b c 16777216 150994944 _ ha hb hc).mono ?_;rintro e w6 ⟨rfl,hx⟩;have qN:=hide (HC.out.trans hx (D:=[]) (by simp));go_wp2;go_ret;exact⟨rfl,qN.out⟩
theorem XF (a b c:Int) (w:World) (ha:-2147483648<=a/\a<=2147483647) (hb:-2147483648<=b/\b<=2147483647) (hc:-2147483648<=c/\c<=2147483647) :
 Calls Tryz.prog 118 #[.agg #[.int .i32 a,.int .i32 b,.int .i32 c]] w fun e w'=>e=.returned (.bool (inside 1000000 400000000 a b c))/\ah w w' []:=by
 have k0:=aC.new w 56 [.int .i32 a,.int .i32 b,.int .i32 c];have m0:=k0;have ajQ:=m0.cell' (i:=0) rfl;have ajR:=m0.cell' (i:=1) rfl;have ajS:=m0.cell' (i:=2) rfl;have HC:=hide ((ah.refl w []).alloc (.cells #[.int .i32 a,.int .i32 b,.int .i32 c] 56));clear k0;clear m0;go_enter Tryz.func118,Tryz.ntmps118
 go_wp2_with fail
 generalize hw5:(w.alloc (.cells #[.int .i32 a,.int .i32 b,.int .i32 c] 56))=w5 at *;clear hw5;refine(Gw a b c 1000000 400000000 _ ha hb hc).mono ?_;rintro e w6 ⟨rfl,hx⟩;have qN:=hide (HC.out.trans hx (D:=[]) (by simp));go_wp2;go_ret;exact⟨rfl,qN.out⟩
def CJ (n:Wd) (low high:Int):Bool:=(rQ n (kW low) (kW high)).v != 0
theorem agG(n low high:Wd):(rQ n low high).v=0\/(rQ n low high).v=-1:=by
 show sF (BO (mV n.v low.v) (mV high.v n.v)) (kW 1).v=0\/sF (BO (mV n.v low.v) (mV high.v n.v)) (kW 1).v=-1;unfold mV;by_cases a:n.v%4294967296<low.v%4294967296<;>by_cases b:high.v%4294967296<n.v%4294967296
 . rw [if_pos a,if_pos b]; left; decide +kernel
 . rw [if_pos a,if_neg b]; left; decide +kernel
 . rw [if_neg a,if_pos b]; left; decide +kernel
 . rw [if_neg a,if_neg b]; right; decide +kernel
def OY(m:Wd)(f:Int):Int:=if m.v=0 then f else 0
def vG(ga gm:Wd):Int:=OY ga 2+OY gm 4
def iR (a b c d:Wd):Bool:=(kQ a b c d).v != 0
