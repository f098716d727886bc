/- Names, as the library's words tell them. No program in sight. -/
import Derived.Test.YtnkmmaijigihpaaGreatDoorTT1
import Derived.Lib.SlTrimSet
import Derived.Lib.IndexLaws
set_option linter.unusedVariables false
namespace Go.Proofs.YtnkmmaijigihpaaGreatDoor
def smalls:List UInt8:=[97,98,99,100,101,102,103,104,105,106,107,108,109,110,111,112,113,114,115,116,117,118,119,120,121,122]
def kL:List UInt8:=smalls ++ [48,49,50,51,52,53,54,55,56,57,95]
theorem aaO:∀ n,n < 256->decide (0<=Lib.indexByte smalls (UInt8.ofNat n)) = uU (UInt8.ofNat n):=by decide +kernel
theorem ad5 (c:UInt8):decide (0<=Lib.indexByte smalls c) = uU c:=by
 have h:=aaO c.toNat c.toNat_lt
 simpa using h
theorem aaP:∀ n,n < 256->kL.contains (UInt8.ofNat n) = jT (UInt8.ofNat n):=by decide +kernel
theorem ad6 (c:UInt8):kL.contains c = jT c:=by
 have h:=aaP c.toNat c.toNat_lt
 simpa using h
theorem dropWhile_nil {α:Type} (p:α->Bool):∀ l:List α,l.dropWhile p = []↔l.all p = true
 | [] => by simp
 | x :: l => by
  rw [List.dropWhile_cons]
  cases h:p x with
  | true => simp [dropWhile_nil p l,h]
  | false => simp [h]
theorem Dv {α:Type} (p q:α->Bool):∀ l:List α,(l.dropWhile p).all p = true->l.all p = true
 | [],_ => rfl
 | x :: l,h => by
  rw [List.dropWhile_cons] at h
  cases hp:p x with
  | true =>
   rw [hp] at h;simp only [if_true] at h;rw [List.all_cons,hp,Dv p q l h]; rfl
  | false => rw [hp] at h; simp [hp] at h
theorem aaQ (l:List UInt8):(Lib.trimS l kL).isEmpty = l.all jT:=by
 have hf:(kL.contains ·) = jT:=funext ad6
 unfold Lib.trimS Lib.trimLeftS Lib.trimRightS;rw [hf];rw [Bool.eq_iff_iff,List.isEmpty_iff,dropWhile_nil,List.all_reverse];constructor
 . intro h
   have:=Dv jT jT _ h;rwa [List.all_reverse] at this
 . intro h
   have e:(l.reverse.dropWhile jT) = []:=(dropWhile_nil _ _).2 (by rw [List.all_reverse]; exact h);rw [e]; rfl
theorem Q_ (c:UInt8) (r:List UInt8):oD (c :: r) = (decide (r.length < 24) && uU c && r.all jT):=rfl
theorem Rf (c:UInt8) (h:uU c = true):jT c = true:=by unfold jT; rw [h]; rfl
end Go.Proofs.YtnkmmaijigihpaaGreatDoor
