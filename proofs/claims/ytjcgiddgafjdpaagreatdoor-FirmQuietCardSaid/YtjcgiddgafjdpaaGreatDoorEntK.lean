/- Tables of calls that answer values in worlds of a kind; a sum's step, of any word, the program's and the reference's. -/
import Derived.Test.YtjcgiddgafjdpaaGreatDoorFQ16
import Derived.Test.YtjcgiddgafjdpaaGreatDoorFQ2
import Derived.Test.YtjcgiddgafjdpaaGreatDoorRef11
namespace Go.Proofs.YtjcgiddgafjdpaaGreatDoor
open Go.RowKit Go.Deep
set_option linter.unusedVariables false
def rX (c b:Int):Int:=(vS (c % 65536).toNat b.toNat:Nat)
theorem ab3 (n b:Nat) (h:n < 65536):rX n b = (vS n b:Nat):=by
 unfold rX
 rw [show ((n:Int) % 65536).toNat = n by omega,show (b:Int).toNat = b by omega]
theorem aeM (c b:Int):0≤rX c b∧rX c b < 65536:=by
 unfold rX
 have:=Gu (c % 65536).toNat b.toNat
 omega
set_option maxRecDepth 100000 in
set_option maxHeartbeats 1000000 in
theorem Tz (c b:Int) (hc:-2147483648≤c∧c≤2147483647) (hb:0≤b∧b≤255) (w:World) :
 Calls Tryz.prog 213 #[.int .i32 c,.int .u8 b] w fun e w' => e = .returned (.int .i32 (rX c b))∧ah w w' []:=by
 obtain ⟨b,rfl⟩:∃ n:Nat,b = n:=⟨b.toNat,by omega⟩
 have h:=Y3 (c % 65536).toNat c b (by omega) hc (by omega) (by omega) w
 unfold rX
 rw [show (b:Int).toNat = b by omega]
 exact h
end Go.Proofs.YtjcgiddgafjdpaaGreatDoor
namespace Go.Proofs.YtjcgiddgafjdpaaGreatDoor.Xi
open Go Go.RowKit
set_option linter.unusedVariables false
structure TA (K:World→Prop) where
 f:FuncId
 fn:List Value→Option Value
 ok:∀ us v,fn us = some v→(∀ u∈us,good1 u)→kK v∧∀ w:World,K w→Calls Tryz.prog f us.toArray w fun e w' => e = .returned v∧ah w w' []
def iM.k {K:World→Prop} (e:iM):TA K:=⟨e.f,e.fn,fun us v h hg => ⟨(e.ok us v h hg).1,fun w _ => (e.ok us v h hg).2 w⟩⟩
def TB {K:World→Prop}:List (TA K)→Tab
 | [],_,_ => none
 | e :: l,f,us => bif Nat.beq e.f f then e.fn us else TB l f us
theorem WE {K:World→Prop}:∀ l:List (TA K),Qo Tryz.prog K (TB l)
 | [],f,us,v,h,hg => by cases h
 | e :: l,f,us,v,h,hg => by
  unfold TB at h
  cases hb:Nat.beq e.f f with
  | true =>
   rw [hb] at h
   obtain rfl:=beq_iff.1 hb
   exact e.ok us v h hg
  | false =>
   rw [hb] at h
   exact WE l f us v h hg
def afY:List Value→Option Value
 | [.int .i32 c,.int .u8 b] => some (.int .i32 (rX c b))
 | _ => none
theorem Lr {b:Int} (h:dD (.int .u8 b)):0≤b∧b≤255:=by
 simp only [dD,Lit.wf,IntKind.min,IntKind.max,IntKind.signed,IntKind.bits] at h
 simp at h
 omega
theorem Ic {b:Int} (h:0≤b∧b≤255):dD (.int .u8 b):=by
 simp only [dD,Lit.wf,IntKind.min,IntKind.max,IntKind.signed,IntKind.bits]
 simp
 omega
theorem aeN {b:Int} (h:dD (.int .i32 b)):-2147483648≤b∧b≤2147483647:=by
 have:=Jp h
 unfold aB at this
 omega
theorem Nu {b:Int} (h:-2147483648≤b∧b≤2147483647):dD (.int .i32 b):=by
 simp only [dD,Lit.wf,IntKind.min,IntKind.max,IntKind.signed,IntKind.bits]
 simp
 omega
theorem Y4 (c b:Int):kK (.int .i32 (rX c b)):=.inl (.inl (Nu (by have:=aeM c b; omega)))
end Go.Proofs.YtjcgiddgafjdpaaGreatDoor.Xi
