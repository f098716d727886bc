/- Texts of this claim, side by side: Crc, Crc2, CostK, Crc3, Crc4, CrcLaw, Ref11Law. -/
import Derived.Test.YtjcgiddgafjdpaaGreatDoorFQ1
import Derived.Lib.LaidTab
import Derived.Test.YtjcgiddgafjdpaaGreatDoorProg
/- crc: nibble, Step: four bits, and a byte, on a sum. -/
namespace Go.Proofs.YtjcgiddgafjdpaaGreatDoor
open Go.RowKit Go.Deep
set_option linter.unusedVariables false
def afg:List Int:=[0,4129,8258,12387,16516,20645,24774,28903,33032,37161,41290,45419,49548,53677,57806,61935]
def J7 (w:World):Prop:=True
def Oe (i:Nat):Nat:=(afg.getD i 0).toNat
theorem ZB:∀ i,i < 16→afg.getD i 0 = (Oe i:Int)∧Oe i < 65536:=by decide
def O8 (c n:Nat):Nat:=((c * 16) ^^^ Oe ((c / 4096) ^^^ n)) % 65536
theorem Ve (c n:Nat):O8 c n < 65536:=Nat.mod_lt _ (by decide)
def vS (c b:Nat):Nat:=O8 (O8 c (b / 16)) (b % 16)
theorem Gu (c b:Nat):vS c b < 65536:=Ve _ _
def gX (xs:List Nat):List Value:=xs.map fun x => .int .u8 (x:Nat)
theorem oP (xs:List Nat):(gX xs).length = xs.length:=by simp [gX]
def iH (c:Nat) (xs:List Nat):Nat:=xs.foldl vS c
theorem O9 {c:Nat} (h:c < 65536) (xs:List Nat):iH c xs < 65536:=by
 unfold iH
 induction xs generalizing c with
 | nil => exact h
 | cons x l ih => exact ih (Gu _ _)
def C_ (op:Int):Bool:=decide (1≤op∧op≤43)
theorem FN (op:Int) (w:World):Calls Tryz.prog 167 #[.int .i64 op] w fun e w' => e = .returned (.bool (C_ op))∧w = w':=by
 by_cases h0:1≤op
 · have d0:decide (op ≥ 1) = true:=by simpa using h0
   have e:C_ op = decide (op≤43):=by unfold C_; simp [h0]
   rw [e]
   go_enter Tryz.func167,Tryz.ntmps167
   go_wp2
   go_ret
   exact ⟨rfl,rfl⟩
 · have d0:decide (op ≥ 1) = false:=by simpa using h0
   have e:C_ op = false:=by unfold C_; simp; omega
   rw [e]
   go_enter Tryz.func167,Tryz.ntmps167
   go_wp2
   go_ret
   exact ⟨rfl,rfl⟩
def Dc:List Int:=[1,1,1,1,1,1,1,1,1,1,1,1,1,1,1,1,1,3,3,3,3,2,2,1,1,1,1,1,1,1,1,1,1,2,2,1,1,1,3,3,3,1,1]
abbrev sJ (w : World) : Prop := Lib.TabIs Tryz.prog w "astrolabe/ops.costs" .i64 Dc
def l3:List Int:=[18,19,20,21,39,40,41]
def l2:List Int:=[22,23,34,35]
def pI (op:Int):Int:=if C_ op = true then (if op∈l3 then 3 else if op∈l2 then 2 else 1) else 0
theorem ZN:((List.range 43).all fun k => decide (pI ((k:Int) + 1) = Dc.getD k 0)) = true:=by kernel_rfl
theorem agm (op:Int) (h:C_ op = true):pI op = Dc.getD (op - 1).toNat 0:=by
 have h:=of_decide_eq_true h
 have:=of_decide_eq_true (List.all_eq_true.1 ZN (op - 1).toNat (List.mem_range.2 (by omega)))
 rwa [show (((op - 1).toNat:Nat):Int) + 1 = op by omega] at this
set_option maxRecDepth 100000 in
set_option maxHeartbeats 1000000 in
theorem vX (op:Int) (w:World) (hc:sJ w):Calls Tryz.prog 252 #[.int .i64 op] w fun e w' => e = .returned (.int .i64 (pI op))∧w = w':=by
 cases h:C_ op with
 | false =>
  have e:pI op = 0:=by unfold pI; rw [h]; rfl
  rw [e]
  clear hc
  go_enter Tryz.func252,Tryz.ntmps252
  go_wp2_with fail
  refine (FN _ _).mono ?_
  rintro e w1 ⟨rfl,rfl⟩
  rw [h]
  go_wp2
  go_ret
  exact ⟨rfl,rfl⟩
 | true =>
  have e:=agm op h
  rw [e]
  have h':=of_decide_eq_true h
  have hcell:=hc.cell (g:=1) (by kernel_rfl) (op - 1).toNat (show _ < 43 by omega)
  have hw:wrap64 (op - 1) = ((op - 1).toNat:Int):=by unfold wrap64; omega
  have hk:(op - 1).toNat < 43:=by omega
  generalize (op - 1).toNat = k at *
  generalize Dc.getD k 0 = x at *
  clear hc e h'
  go_enter Tryz.func252,Tryz.ntmps252
  go_wp2_with fail
  refine (FN _ _).mono ?_
  rintro e w1 ⟨rfl,rfl⟩
  rw [h]
  clear h
  go_wp2
  go_ret
  exact ⟨rfl,rfl⟩
theorem bne_cast (a b:Nat):((a:Int) != (b:Int)) = !(a == b):=by
 cases h:a == b with
 | true =>
  have e:a = b:=by simpa using h
  subst e
  simp
 | false =>
  have e:a≠b:=by simpa using h
  have e2:(a:Int)≠b:=by omega
  simpa using e2
def Fq (xs:List Nat) (n:Nat):Bool:=iH 65535 (xs.take n) / 256 == xs.getD n 0 && iH 65535 (xs.take n) % 256 == xs.getD (n + 1) 0
def wU (xs:List Nat):List Nat:=xs ++ [iH 65535 xs / 256,iH 65535 xs % 256]
end Go.Proofs.YtjcgiddgafjdpaaGreatDoor

/- A sum's step, four bits at a time by a table, is that of eight single bits. -/
namespace Go.Proofs.YtjcgiddgafjdpaaGreatDoor
open Go.RowKit
set_option linter.unusedVariables false
set_option linter.unusedSimpArgs false
def lS (x:Nat):Nat:=if 32768≤x then (2 * x % 65536) ^^^ 4129 else 2 * x % 65536
theorem qU (x:Nat):lS x < 65536:=by
 unfold lS
 split
 · exact Nat.xor_lt_two_pow (n:=16) (Nat.mod_lt _ (by decide)) (by decide)
 · exact Nat.mod_lt _ (by decide)
def fB (v:BitVec 16):BitVec 16:=(v <<< 1) ^^^ (bif v.msb then 4129#16 else 0#16)
theorem alA (u v:BitVec 16):fB (u ^^^ v) = fB u ^^^ fB v:=by
 unfold fB
 rw [BitVec.msb_xor,BitVec.shiftLeft_xor_distrib]
 cases u.msb <;> cases v.msb <;> simp only [Bool.xor_false,Bool.false_xor,Bool.xor_self,Bool.bne_true,Bool.bne_false,Bool.not_false,Bool.not_true,cond_true,cond_false,BitVec.xor_zero] <;> (ext i hi; simp <;> grind)
theorem Lp (v:BitVec 16):lS v.toNat = (fB v).toNat:=by
 have hv:=v.isLt
 unfold lS fB
 have e:(v <<< 1).toNat = 2 * v.toNat % 65536:=by
  rw [BitVec.toNat_shiftLeft,Nat.shiftLeft_eq]; omega
 have m:v.msb = decide (32768≤v.toNat):=by rw [BitVec.msb_eq_decide]
 rw [BitVec.toNat_xor,e,m]
 by_cases h:32768≤v.toNat
 · rw [if_pos h,decide_eq_true h]; rfl
 · rw [if_neg h,decide_eq_false h]; simp
theorem Cb {x y:Nat} (hx:x < 65536) (hy:y < 65536):lS (x ^^^ y) = lS x ^^^ lS y:=by
 have ex:(BitVec.ofNat 16 x).toNat = x:=by rw [BitVec.toNat_ofNat]; exact Nat.mod_eq_of_lt hx
 have ey:(BitVec.ofNat 16 y).toNat = y:=by rw [BitVec.toNat_ofNat]; exact Nat.mod_eq_of_lt hy
 have h:=Lp (BitVec.ofNat 16 x ^^^ BitVec.ofNat 16 y)
 rw [alA,BitVec.toNat_xor,BitVec.toNat_xor,← Lp,← Lp,ex,ey] at h
 exact h
def vH (x:Nat):Nat:=lS (lS (lS (lS x)))
theorem ahZ (x:Nat):vH x < 65536:=qU _
theorem Tj {x y:Nat} (hx:x < 65536) (hy:y < 65536):vH (x ^^^ y) = vH x ^^^ vH y:=by
 unfold vH
 rw [Cb hx hy,Cb (qU _) (qU _),Cb (qU _) (qU _),Cb (qU _) (qU _)]
theorem aeK:∀ i,i < 16→vH (4096 * i) = Oe i:=by decide +kernel
theorem Tn {x:Nat} (h:x < 4096):vH x = 16 * x:=by
 unfold vH
 have s:∀ y,y < 32768→lS y = 2 * y:=fun y hy => by unfold lS; rw [if_neg (by omega)]; omega
 rw [s x (by omega),s (2 * x) (by omega),s (2 * (2 * x)) (by omega),s (2 * (2 * (2 * x))) (by omega)]
 omega
theorem WC (x:Nat):x = (4096 * (x / 4096)) ^^^ (x % 4096):=by
 have h:=Nat.two_pow_add_eq_or_of_lt (i:=12) (b:=x % 4096) (Nat.mod_lt _ (by decide)) (x / 4096)
 have h2:(4096 * (x / 4096)) ^^^ (x % 4096) = (4096 * (x / 4096)) ||| (x % 4096):=by
  apply Nat.eq_of_testBit_eq
  intro i
  rw [Nat.testBit_xor,Nat.testBit_or]
  by_cases hi:i < 12
  · have : (4096 * (x / 4096)).testBit i = false := by
     have:=Nat.testBit_two_pow_mul (i:=12) (a:=x / 4096) (j:=i)
     rw [show (2:Nat) ^ 12 = 4096 from rfl] at this
     rw [this]; simp; omega
    rw [this]; simp
  · have : (x % 4096).testBit i = false := Nat.testBit_lt_two_pow (Nat.lt_of_lt_of_le (Nat.mod_lt _ (by decide)) (by
     have:=Nat.pow_le_pow_right (n:=2) (by decide) (show 12≤i by omega)
     simpa using this))
    rw [this]; simp
 rw [h2,← show 2 ^ 12 * (x / 4096) ||| x % 4096 = 4096 * (x / 4096) ||| x % 4096 from rfl,← h]
 omega
theorem Tq {c n:Nat} (hc:c < 65536) (hn:n < 16):O8 c n = vH (c ^^^ (4096 * n)):=by
 have hx:c / 4096 ^^^ n < 16:=Nat.xor_lt_two_pow (n:=4) (by omega) hn
 have e:c ^^^ (4096 * n) = (4096 * (c / 4096 ^^^ n)) ^^^ (c % 4096):=by
  have h1:4096 * (c / 4096 ^^^ n) = (4096 * (c / 4096)) ^^^ (4096 * n):=by
   have:=Nat.shiftLeft_xor_distrib (a:=c / 4096) (b:=n) (i:=12)
   simp only [Nat.shiftLeft_eq] at this
   rw [Nat.mul_comm 4096,Nat.mul_comm 4096 (c / 4096),Nat.mul_comm 4096 n]
   exact this
  rw [h1]
  conv => lhs; rw [WC c]
  rw [Nat.xor_assoc,Nat.xor_assoc,Nat.xor_comm (c % 4096)]
 rw [e,Tj (by omega) (by omega),aeK _ hx,Tn (Nat.mod_lt _ (by decide))]
 unfold O8
 have h3:∀ a b:Nat,(a ^^^ b) % 65536 = (a % 65536) ^^^ (b % 65536):=fun a b => Nat.xor_mod_two_pow (n:=16)
 rw [h3,Nat.mod_eq_of_lt (ZB _ hx).2,Nat.xor_comm,show c * 16 % 65536 = 16 * (c % 4096) by omega]
def Ee (x:Nat):Nat:=vH (vH x)
theorem Ns {c b:Nat} (hc:c < 65536) (hb:b < 256):vS c b = Ee (c ^^^ (256 * b)):=by
 unfold vS Ee
 have h1:256 * b = (4096 * (b / 16)) ^^^ (256 * (b % 16)):=by
  have:=WC (256 * b)
  rw [show 256 * b / 4096 = b / 16 by omega,show 256 * b % 4096 = 256 * (b % 16) by omega] at this
  exact this
 have l1:c ^^^ (4096 * (b / 16)) < 65536:=Nat.xor_lt_two_pow (n:=16) hc (by omega)
 rw [Tq (Ve _ _) (by omega),Tq hc (by omega),h1,← Nat.xor_assoc,Tj (x:=c ^^^ 4096 * (b / 16)) l1 (by omega),Tn (x:=256 * (b % 16)) (by omega),show 16 * (256 * (b % 16)) = 4096 * (b % 16) by omega]
end Go.Proofs.YtjcgiddgafjdpaaGreatDoor

/- xor by bits, and a sum's step bit by bit: plain. -/
namespace Go.Proofs.YtjcgiddgafjdpaaGreatDoor
open Go.RowKit
set_option linter.unusedVariables false
theorem ah0 (a b i:Nat):(a ^^^ b) / 2 ^ i % 2 = if a / 2 ^ i % 2 = b / 2 ^ i % 2 then 0 else 1:=by
 have h:=Nat.testBit_xor a b i
 rw [Nat.testBit_eq_decide_div_mod_eq,Nat.testBit_eq_decide_div_mod_eq,Nat.testBit_eq_decide_div_mod_eq] at h
 have hx:=Nat.mod_lt ((a ^^^ b) / 2 ^ i) (show 0 < 2 by decide)
 have ha:=Nat.mod_lt (a / 2 ^ i) (show 0 < 2 by decide)
 have hb:=Nat.mod_lt (b / 2 ^ i) (show 0 < 2 by decide)
 generalize (a ^^^ b) / 2 ^ i % 2 = x at *
 generalize a / 2 ^ i % 2 = y at *
 generalize b / 2 ^ i % 2 = z at *
 rcases (by omega:x = 0∨x = 1) with rfl | rfl <;> rcases (by omega:y = 0∨y = 1) with rfl | rfl <;> rcases (by omega:z = 0∨z = 1) with rfl | rfl <;> simp_all
theorem aeL (a b i:Nat):(a ^^^ b) % 2 ^ (i + 1) = (a ^^^ b) % 2 ^ i + (if a / 2 ^ i % 2 = b / 2 ^ i % 2 then 0 else 2 ^ i):=by
 have h:(a ^^^ b) % 2 ^ (i + 1) = (a ^^^ b) % 2 ^ i + 2 ^ i * ((a ^^^ b) / 2 ^ i % 2):=by rw [Nat.pow_succ,Nat.mod_mul]
 rw [h,ah0]
 split <;> simp
def jT:Nat→Nat→Nat
 | 0,x => x
 | i + 1,x => lS (jT i x)
theorem anO (x:Nat):jT 8 x = Ee x:=rfl
theorem alB {x:Nat} (h:x < 65536):∀ i,jT i x < 65536
 | 0 => h
 | i + 1 => qU _
end Go.Proofs.YtjcgiddgafjdpaaGreatDoor
