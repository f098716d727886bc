/- Tables of calls that answer values in worlds of a kind; a sum's step, of any word, the program's and the reference's. -/
import Derived.Test.YtjcgiddgafjdpaaGreatDoorFR14
import Derived.Test.YtjcgiddgafjdpaaGreatDoorFR6
import Derived.Test.YtjcgiddgafjdpaaGreatDoorRef11
namespace Go.Proofs.YtjcgiddgafjdpaaGreatDoor
open Go.RowKit Go.Deep
set_option linter.unusedVariables false
def stepI (c b:Int):Int:=(stepN (c % 65536).toNat b.toNat:Nat)
theorem stepI_nat (n b:Nat) (h:n < 65536):stepI n b = (stepN n b:Nat):=by
 unfold stepI
 rw [show ((n:Int) % 65536).toNat = n by omega,show (b:Int).toNat = b by omega]
theorem stepI_lt (c b:Int):0≤stepI c b∧stepI c b < 65536:=by
 unfold stepI
 have:=stepN_lt (c % 65536).toNat b.toNat
 omega
set_option maxRecDepth 100000 in
set_option maxHeartbeats 1000000 in
theorem rstepI_calls (c b:Int) (hc:-2147483648≤c∧c≤2147483647) (hb:0≤b∧b≤255) (w:World) :
 Calls Tryz.prog 213 #[.int .i32 c,.int .u8 b] w fun e w' => e = .returned (.int .i32 (stepI c b))∧Chg w w' []:=by
 obtain ⟨b,rfl⟩:∃ n:Nat,b = n:=⟨b.toNat,by omega⟩
 have h:=rstep_body (c % 65536).toNat c b (by omega) hc (by omega) (by omega) w
 unfold stepI
 rw [show (b:Int).toNat = b by omega]
 exact h
end Go.Proofs.YtjcgiddgafjdpaaGreatDoor
namespace Go.Proofs.YtjcgiddgafjdpaaGreatDoor.Xi
open Go Go.RowKit
set_option linter.unusedVariables false
structure EntK (K:World→Prop) where
 f:FuncId
 fn:List Value→Option Value
 ok:∀ us v,fn us = some v→(∀ u∈us,good1 u)→goodC v∧∀ w:World,K w→Calls Tryz.prog f us.toArray w fun e w' => e = .returned v∧Chg w w' []
def Ent.k {K:World→Prop} (e:Ent):EntK K:=⟨e.f,e.fn,fun us v h hg => ⟨(e.ok us v h hg).1,fun w _ => (e.ok us v h hg).2 w⟩⟩
def tabK {K:World→Prop}:List (EntK K)→Tab
 | [],_,_ => none
 | e :: l,f,us => bif Nat.beq e.f f then e.fn us else tabK l f us
theorem tabK_ok {K:World→Prop}:∀ l:List (EntK K),TabOkK Tryz.prog K (tabK l)
 | [],f,us,v,h,hg => by cases h
 | e :: l,f,us,v,h,hg => by
  unfold tabK at h
  cases hb:Nat.beq e.f f with
  | true =>
   rw [hb] at h
   obtain rfl:=beq_iff.1 hb
   exact e.ok us v h hg
  | false =>
   rw [hb] at h
   exact tabK_ok l f us v h hg
def fStep:List Value→Option Value
 | [.int .i32 c,.int .u8 b] => some (.int .i32 (stepI c b))
 | _ => none
theorem good_u8 {b:Int} (h:goodV (.int .u8 b)):0≤b∧b≤255:=by
 simp only [goodV,Lit.wf,IntKind.min,IntKind.max,IntKind.signed,IntKind.bits] at h
 simp at h
 omega
theorem good_u8' {b:Int} (h:0≤b∧b≤255):goodV (.int .u8 b):=by
 simp only [goodV,Lit.wf,IntKind.min,IntKind.max,IntKind.signed,IntKind.bits]
 simp
 omega
theorem good_i32 {b:Int} (h:goodV (.int .i32 b)):-2147483648≤b∧b≤2147483647:=by
 have:=in_of_good h
 unfold In32 at this
 omega
theorem good_i32' {b:Int} (h:-2147483648≤b∧b≤2147483647):goodV (.int .i32 b):=by
 simp only [goodV,Lit.wf,IntKind.min,IntKind.max,IntKind.signed,IntKind.bits]
 simp
 omega
theorem goodC_step (c b:Int):goodC (.int .i32 (stepI c b)):=.inl (.inl (good_i32' (by have:=stepI_lt c b; omega)))
end Go.Proofs.YtjcgiddgafjdpaaGreatDoor.Xi
