/- Tables of calls that answer values in worlds of a kind; a sum's step, of any word, the program's and the reference's. -/
import Derived.Test.YtjmojlhnmkjdkaaGreatDoorFR14
import Derived.Test.YtjmojlhnmkjdkaaGreatDoorRef11
set_option linter.unusedVariables false
namespace Go.Proofs.YtjmojlhnmkjdkaaGreatDoor
section
open Go.RowKit Go.Deep
def vg (c b:Int):Int:=(zF (c % 65536).toNat b.toNat:Nat)
theorem afW (n b:Nat) (h:n < 65536):vg n b=(zF n b:Nat):=by
 unfold vg;rw [show ((n:Int) % 65536).toNat=n by omega,show (b:Int).toNat=b by omega]
theorem ai3 (c b:Int):0<=vg c b/\vg c b < 65536:=by
 unfold vg;have:=Lu (c % 65536).toNat b.toNat;omega
set_option maxRecDepth 100000 in
set_option maxHeartbeats 1000000 in
theorem Xf (c b:Int) (hc:-2147483648<=c/\c<=2147483647) (hb:0<=b/\b<=255) (w:World) :
 Calls Tryz.prog 214 #[.int .i32 c,.int .u8 b] w fun e w'=>e=.returned (.int .i32 (vg c b))/\ah w w' []:=by
 obtain ⟨b,rfl⟩:∃ n:Nat,b=n:=⟨b.toNat,by omega⟩
 have h:=acM (c % 65536).toNat c b (by omega) hc (by omega) (by omega) w;unfold vg;rw [show (b:Int).toNat=b by omega];exact h
end
namespace Xi
open Go Go.RowKit
structure LJ (K:World->Prop) where
 f:FuncId
 fn:List Value->Option Value
 ok:∀ us v,fn us=some v->(∀ u∈us,good1 u)->iw v/\∀ w:World,K w->Calls Tryz.prog f us.toArray w fun e w'=>e=.returned v/\ah w w' []
def fA.k {K:World->Prop} (e:fA):LJ K:=⟨e.f,e.fn,fun us v h hg=>⟨(e.ok us v h hg).1,fun w _=>(e.ok us v h hg).2 w⟩⟩
def Dl {K:World->Prop}:List (LJ K)->Tab
 | [],_,_=>none
 | e :: l,f,us=>bif Nat.beq e.f f then e.fn us else Dl l f us
theorem P_ {K:World->Prop}:∀ l:List (LJ K),MQ Tryz.prog K (Dl l)
 | [],f,us,v,h,hg=>by cases h
 | e :: l,f,us,v,h,hg=>by
  unfold Dl at h
  cases hb:Nat.beq e.f f with
  | true =>
   rw [hb] at h;obtain rfl:=beq_iff.1 hb;exact e.ok us v h hg
  | false =>
   rw [hb] at h;exact P_ l f us v h hg
def akT:List Value->Option Value
 | [.int .i32 c,.int .u8 b]=>some (.int .i32 (vg c b))
 | _=>none
theorem Qa {b:Int} (h:dS (.int .u8 b)):0<=b/\b<=255:=by
 simp only [dS,Lit.wf,IntKind.min,IntKind.max,IntKind.signed,IntKind.bits] at h;simp at h;omega
theorem LK {b:Int} (h:0<=b/\b<=255):dS (.int .u8 b):=by
 simp only [dS,Lit.wf,IntKind.min,IntKind.max,IntKind.signed,IntKind.bits];simp;omega
theorem ai4 {b:Int} (h:dS (.int .i32 b)):-2147483648<=b/\b<=2147483647:=by
 have:=ND h;unfold aB at this;omega
theorem Rw {b:Int} (h:-2147483648<=b/\b<=2147483647):dS (.int .i32 b):=by
 simp only [dS,Lit.wf,IntKind.min,IntKind.max,IntKind.signed,IntKind.bits];simp;omega
theorem acN (c b:Int):iw (.int .i32 (vg c b)):=.inl (.inl (Rw (by have:=ai3 c b; omega)))
