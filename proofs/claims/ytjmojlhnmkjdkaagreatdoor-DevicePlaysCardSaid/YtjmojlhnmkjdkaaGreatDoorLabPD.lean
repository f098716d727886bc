/- Names, as the library's words tell them. No program in sight. -/
import Derived.Test.YtjmojlhnmkjdkaaGreatDoorDP1
import Derived.Lib.SlTrimSet
import Derived.Lib.IndexLaws
set_option linter.unusedVariables false
namespace Go.Proofs.YtjmojlhnmkjdkaaGreatDoor
def smalls:List UInt8:=[97,98,99,100,101,102,103,104,105,106,107,108,109,110,111,112,113,114,115,116,117,118,119,120,121,122]
def lT:List UInt8:=smalls++[48,49,50,51,52,53,54,55,56,57,95]
theorem ael:∀ n,n<256->decide (0<=Lib.indexByte smalls (UInt8.ofNat n))=xG (UInt8.ofNat n):=by decide +kernel
theorem ahV(c:UInt8):decide (0<=Lib.indexByte smalls c)=xG c:=by
 have h:=ael c.toNat c.toNat_lt
 simpa using h
theorem aem:∀ n,n<256->lT.contains (UInt8.ofNat n)=kX (UInt8.ofNat n):=by decide +kernel
theorem ahW(c:UInt8):lT.contains c=kX c:=by
 have h:=aem c.toNat c.toNat_lt
 simpa using h
theorem dropWhile_nil{α:Type}(p:α->Bool):∀ l:List α,l.dropWhile p=[]↔l.all p=true
 | []=>by simp
 | x::l=>by
  rw [List.dropWhile_cons]
  cases h:p x with
  | true=>simp [dropWhile_nil p l,h]
  | false=>simp [h]
theorem Gi{α:Type}(p q:α->Bool):∀ l:List α,(l.dropWhile p).all p=true->l.all p=true
 | [],_=>rfl
 | x::l,h=>by
  rw [List.dropWhile_cons] at h
  cases hp:p x with
  | true =>
   rw [hp] at h;simp only [if_true] at h;rw [List.all_cons,hp,Gi p q l h]; rfl
  | false=>rw [hp] at h; simp [hp] at h
theorem aen(l:List UInt8):(Lib.trimS l lT).isEmpty=l.all kX:=by
 have hf:(lT.contains ·)=kX:=funext ahW
 unfold Lib.trimS Lib.trimLeftS Lib.trimRightS;rw [hf];rw [Bool.eq_iff_iff,List.isEmpty_iff,dropWhile_nil,List.all_reverse];constructor
 . intro h
   have:=Gi kX kX _ h;rwa [List.all_reverse] at this
 . intro h
   have e:(l.reverse.dropWhile kX)=[]:=(dropWhile_nil _ _).2 (by rw [List.all_reverse]; exact h);rw [e]; rfl
theorem UZ(c:UInt8)(r:List UInt8):qJ (c::r)=(decide (r.length<24)&&xG c&&r.all kX):=rfl
theorem U0(c:UInt8)(h:xG c=true):kX c=true:=by unfold kX; rw [h]; rfl
