/- Texts of this claim, side by side. -/
import Derived.Test.YtjmojlhnmkjdkaaGreatDoorFR1
import Derived.Lib.LaidTab
set_option linter.unusedVariables false
set_option linter.unusedSimpArgs false
namespace Go.Proofs.YtjmojlhnmkjdkaaGreatDoor
section
open Go.RowKit Go.Deep
def G8 (op:Int):Bool:=decide (1<=op/\op<=43)
theorem JK (op:Int) (w:World):Calls Tryz.prog 174 #[.int .i64 op] w fun e w'=>e=.returned (.bool (G8 op))/\w=w':=by
 by_cases h0:1<=op
 . have d0:decide (op >= 1)=true:=by simpa using h0
   have e:G8 op=decide (op<=43):=by unfold G8; simp [h0]
   rw [e];go_enter Tryz.func174,Tryz.ntmps174
   go_wp2;go_ret;exact ⟨rfl,rfl⟩
 . have d0:decide (op >= 1)=false:=by simpa using h0
   have e:G8 op=false:=by unfold G8; simp; omega
   rw [e];go_enter Tryz.func174,Tryz.ntmps174
   go_wp2;go_ret;exact ⟨rfl,rfl⟩
def G9:List Int:=[1,1,1,1,1,1,1,1,1,1,1,1,1,1,1,1,1,3,3,3,3,2,2,1,1,1,1,1,1,1,1,1,1,2,2,1,1,1,3,3,3,1,1]
abbrev vZ (w : World) : Prop := Lib.TabIs Tryz.prog w "astrolabe/ops.costs" .i64 G9
def l3:List Int:=[18,19,20,21,39,40,41]
def l2:List Int:=[22,23,34,35]
def sD (op:Int):Int:=if G8 op=true then (if op∈l3 then 3 else if op∈l2 then 2 else 1) else 0
theorem aew:((List.range 43).all fun k=>decide (sD ((k:Int)+1)=G9.getD k 0))=true:=by kernel_rfl
theorem al2 (op:Int) (h:G8 op=true):sD op=G9.getD (op - 1).toNat 0:=by
 have h:=of_decide_eq_true h;have:=of_decide_eq_true (List.all_eq_true.1 aew (op - 1).toNat (List.mem_range.2 (by omega)));rwa [show (((op - 1).toNat:Nat):Int)+1=op by omega] at this
set_option maxRecDepth 100000 in
set_option maxHeartbeats 1000000 in
theorem zi (op:Int) (w:World) (hc:vZ w):Calls Tryz.prog 263 #[.int .i64 op] w fun e w'=>e=.returned (.int .i64 (sD op))/\w=w':=by
 cases h:G8 op with
 | false =>
  have e:sD op=0:=by unfold sD; rw [h]; rfl
  rw [e];clear hc;go_enter Tryz.func263,Tryz.ntmps263
  go_wp2_with fail
  refine (JK _ _).mono ?_;rintro e w1 ⟨rfl,rfl⟩;rw [h];go_wp2;go_ret;exact ⟨rfl,rfl⟩
 | true =>
  have e:=al2 op h;rw [e];have h':=of_decide_eq_true h;have hcell:=hc.cell (g:=3) (by kernel_rfl) (op - 1).toNat (show _ < 43 by omega);have hw:wrap64 (op - 1)=((op - 1).toNat:Int):=by unfold wrap64; omega
  have hk:(op - 1).toNat < 43:=by omega
  generalize (op - 1).toNat=k at *;generalize G9.getD k 0=x at *;clear hc e h';go_enter Tryz.func263,Tryz.ntmps263
  go_wp2_with fail
  refine (JK _ _).mono ?_;rintro e w1 ⟨rfl,rfl⟩;rw [h];clear h;go_wp2;go_ret;exact ⟨rfl,rfl⟩
def akS:List Int:=[0,4129,8258,12387,16516,20645,24774,28903,33032,37161,41290,45419,49548,53677,57806,61935]
def ug (w:World):Prop:=True
def TJ (i:Nat):Nat:=(akS.getD i 0).toNat
theorem afJ:∀ i,i < 16->akS.getD i 0=(TJ i:Int)/\TJ i < 65536:=by decide
def WC (c n:Nat):Nat:=((c * 16) ^^^ TJ ((c / 4096) ^^^ n)) % 65536
theorem aan (c n:Nat):WC c n < 65536:=Nat.mod_lt _ (by decide)
def zF (c b:Nat):Nat:=WC (WC c (b / 16)) (b % 16)
theorem Lu (c b:Nat):zF c b < 65536:=aan _ _
def fJ (xs:List Nat):List Value:=xs.map fun x=>.int .u8 (x:Nat)
theorem jT (xs:List Nat):(fJ xs).length=xs.length:=by simp [fJ]
def jk (c:Nat) (xs:List Nat):Nat:=xs.foldl zF c
theorem WE {c:Nat} (h:c < 65536) (xs:List Nat):jk c xs < 65536:=by
 unfold jk
 induction xs generalizing c with
 | nil=>exact h
 | cons x l ih=>exact ih (Lu _ _)
theorem bne_cast (a b:Nat):((a:Int) != (b:Int))=!(a==b):=by
 cases h:a==b with
 | true =>
  have e:a=b:=by simpa using h
  subst e;simp
 | false =>
  have e:a≠b:=by simpa using h
  have e2:(a:Int)≠b:=by omega
  simpa using e2
def u_ (xs:List Nat) (n:Nat):Bool:=jk 65535 (xs.take n) / 256==xs.getD n 0 && jk 65535 (xs.take n) % 256==xs.getD (n+1) 0
def rM (xs:List Nat):List Nat:=xs ++ [jk 65535 xs / 256,jk 65535 xs % 256]
end

section
open Go.RowKit
def oq (x:Nat):Nat:=if 32768<=x then (2 * x % 65536) ^^^ 4129 else 2 * x % 65536
theorem uD (x:Nat):oq x < 65536:=by
 unfold oq;split
 . exact Nat.xor_lt_two_pow (n:=16) (Nat.mod_lt _ (by decide)) (by decide)
 . exact Nat.mod_lt _ (by decide)
def fB (v:BitVec 16):BitVec 16:=(v <<< 1) ^^^ (bif v.msb then 4129#16 else 0#16)
theorem aqR (u v:BitVec 16):fB (u ^^^ v)=fB u ^^^ fB v:=by
 unfold fB;rw [BitVec.msb_xor,BitVec.shiftLeft_xor_distrib]
 cases u.msb<;>cases v.msb<;>simp only [Bool.xor_false,Bool.false_xor,Bool.xor_self,Bool.bne_true,Bool.bne_false,Bool.not_false,Bool.not_true,cond_true,cond_false,BitVec.xor_zero]<;>(ext i hi; simp<;>grind)
theorem P9 (v:BitVec 16):oq v.toNat=(fB v).toNat:=by
 have hv:=v.isLt;unfold oq fB
 have e:(v <<< 1).toNat=2 * v.toNat % 65536:=by
  rw [BitVec.toNat_shiftLeft,Nat.shiftLeft_eq]; omega
 have m:v.msb=decide (32768<=v.toNat):=by rw [BitVec.msb_eq_decide]
 rw [BitVec.toNat_xor,e,m];by_cases h:32768<=v.toNat
 . rw [if_pos h,decide_eq_true h]; rfl
 . rw [if_neg h,decide_eq_false h]; simp
theorem FN {x y:Nat} (hx:x < 65536) (hy:y < 65536):oq (x ^^^ y)=oq x ^^^ oq y:=by
 have ex:(BitVec.ofNat 16 x).toNat=x:=by rw [BitVec.toNat_ofNat]; exact Nat.mod_eq_of_lt hx
 have ey:(BitVec.ofNat 16 y).toNat=y:=by rw [BitVec.toNat_ofNat]; exact Nat.mod_eq_of_lt hy
 have h:=P9 (BitVec.ofNat 16 x ^^^ BitVec.ofNat 16 y);rw [aqR,BitVec.toNat_xor,BitVec.toNat_xor,<- P9,<- P9,ex,ey] at h;exact h
def yA (x:Nat):Nat:=oq (oq (oq (oq x)))
theorem am7 (x:Nat):yA x < 65536:=uD _
theorem Xa {x y:Nat} (hx:x < 65536) (hy:y < 65536):yA (x ^^^ y)=yA x ^^^ yA y:=by
 unfold yA;rw [FN hx hy,FN (uD _) (uD _),FN (uD _) (uD _),FN (uD _) (uD _)]
theorem ai1:∀ i,i < 16->yA (4096 * i)=TJ i:=by decide +kernel
theorem Xb {x:Nat} (h:x < 4096):yA x=16 * x:=by
 unfold yA;have s:∀ y,y < 32768->oq y=2 * y:=fun y hy=>by unfold oq; rw [if_neg (by omega)]; omega
 rw [s x (by omega),s (2 * x) (by omega),s (2 * (2 * x)) (by omega),s (2 * (2 * (2 * x))) (by omega)];omega
theorem aav (x:Nat):x=(4096 * (x / 4096)) ^^^ (x % 4096):=by
 have h:=Nat.two_pow_add_eq_or_of_lt (i:=12) (b:=x % 4096) (Nat.mod_lt _ (by decide)) (x / 4096)
 have h2:(4096 * (x / 4096)) ^^^ (x % 4096)=(4096 * (x / 4096)) ||| (x % 4096):=by
  apply Nat.eq_of_testBit_eq;intro i;rw [Nat.testBit_xor,Nat.testBit_or];by_cases hi:i < 12
  . have : (4096 * (x / 4096)).testBit i=false := by
     have:=Nat.testBit_two_pow_mul (i:=12) (a:=x / 4096) (j:=i);rw [show (2:Nat) ^ 12=4096 from rfl] at this;rw [this]; simp; omega
    rw [this]; simp
  . have : (x % 4096).testBit i=false := Nat.testBit_lt_two_pow (Nat.lt_of_lt_of_le (Nat.mod_lt _ (by decide)) (by
     have:=Nat.pow_le_pow_right (n:=2) (by decide) (show 12<=i by omega)
     simpa using this))
    rw [this]; simp
 rw [h2,<- show 2 ^ 12 * (x / 4096) ||| x % 4096=4096 * (x / 4096) ||| x % 4096 from rfl,<- h];omega
theorem Xc {c n:Nat} (hc:c < 65536) (hn:n < 16):WC c n=yA (c ^^^ (4096 * n)):=by
 have hx:c / 4096 ^^^ n < 16:=Nat.xor_lt_two_pow (n:=4) (by omega) hn
 have e:c ^^^ (4096 * n)=(4096 * (c / 4096 ^^^ n)) ^^^ (c % 4096):=by
  have h1:4096 * (c / 4096 ^^^ n)=(4096 * (c / 4096)) ^^^ (4096 * n):=by
   have:=Nat.shiftLeft_xor_distrib (a:=c / 4096) (b:=n) (i:=12);simp only [Nat.shiftLeft_eq] at this;rw [Nat.mul_comm 4096,Nat.mul_comm 4096 (c / 4096),Nat.mul_comm 4096 n];exact this
  rw [h1]
  conv=>lhs; rw [aav c]
  rw [Nat.xor_assoc,Nat.xor_assoc,Nat.xor_comm (c % 4096)]
 rw [e,Xa (by omega) (by omega),ai1 _ hx,Xb (Nat.mod_lt _ (by decide))];unfold WC;have h3:∀ a b:Nat,(a ^^^ b) % 65536=(a % 65536) ^^^ (b % 65536):=fun a b=>Nat.xor_mod_two_pow (n:=16);rw [h3,Nat.mod_eq_of_lt (afJ _ hx).2,Nat.xor_comm,show c * 16 % 65536=16 * (c % 4096) by omega]
def Il (x:Nat):Nat:=yA (yA x)
theorem Ru {c b:Nat} (hc:c < 65536) (hb:b < 256):zF c b=Il (c ^^^ (256 * b)):=by
 unfold zF Il
 have h1:256 * b=(4096 * (b / 16)) ^^^ (256 * (b % 16)):=by
  have:=aav (256 * b);rw [show 256 * b / 4096=b / 16 by omega,show 256 * b % 4096=256 * (b % 16) by omega] at this;exact this
 have l1:c ^^^ (4096 * (b / 16)) < 65536:=Nat.xor_lt_two_pow (n:=16) hc (by omega);rw [Xc (aan _ _) (by omega),Xc hc (by omega),h1,<- Nat.xor_assoc,Xa (x:=c ^^^ 4096 * (b / 16)) l1 (by omega),Xb (x:=256 * (b % 16)) (by omega),show 16 * (256 * (b % 16))=4096 * (b % 16) by omega]
end

section
open Go.RowKit
theorem am8 (a b i:Nat):(a ^^^ b) / 2 ^ i % 2=if a / 2 ^ i % 2=b / 2 ^ i % 2 then 0 else 1:=by
 have h:=Nat.testBit_xor a b i;rw [Nat.testBit_eq_decide_div_mod_eq,Nat.testBit_eq_decide_div_mod_eq,Nat.testBit_eq_decide_div_mod_eq] at h;have hx:=Nat.mod_lt ((a ^^^ b) / 2 ^ i) (show 0 < 2 by decide);have ha:=Nat.mod_lt (a / 2 ^ i) (show 0 < 2 by decide);have hb:=Nat.mod_lt (b / 2 ^ i) (show 0 < 2 by decide);generalize (a ^^^ b) / 2 ^ i % 2=x at *;generalize a / 2 ^ i % 2=y at *;generalize b / 2 ^ i % 2=z at *;rcases (by omega:x=0\/x=1) with rfl | rfl<;>rcases (by omega:y=0\/y=1) with rfl | rfl<;>rcases (by omega:z=0\/z=1) with rfl | rfl<;>simp_all
theorem ai2 (a b i:Nat):(a ^^^ b) % 2 ^ (i+1)=(a ^^^ b) % 2 ^ i+(if a / 2 ^ i % 2=b / 2 ^ i % 2 then 0 else 2 ^ i):=by
 have h:(a ^^^ b) % 2 ^ (i+1)=(a ^^^ b) % 2 ^ i+2 ^ i * ((a ^^^ b) / 2 ^ i % 2):=by rw [Nat.pow_succ,Nat.mod_mul]
 rw [h,am8];split<;>simp
def lI:Nat->Nat->Nat
 | 0,x=>x
 | i+1,x=>oq (lI i x)
theorem atC (x:Nat):lI 8 x=Il x:=rfl
theorem aqS {x:Nat} (h:x < 65536):∀ i,lI i x < 65536
 | 0=>h
 | i+1=>uD _
