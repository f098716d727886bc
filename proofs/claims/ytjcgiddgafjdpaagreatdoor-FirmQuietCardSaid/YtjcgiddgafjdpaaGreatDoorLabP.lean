/- Names, as the library's words tell them. No program in sight. -/
import Derived.Test.YtjcgiddgafjdpaaGreatDoorFQ1
import Derived.Lib.SlTrimSet
import Derived.Lib.IndexLaws
namespace Go.Proofs.YtjcgiddgafjdpaaGreatDoor
set_option linter.unusedVariables false
def smalls:List UInt8:=[97,98,99,100,101,102,103,104,105,106,107,108,109,110,111,112,113,114,115,116,117,118,119,120,121,122]
def ku:List UInt8:=smalls ++ [48,49,50,51,52,53,54,55,56,57,95]
theorem ZC:∀ n,n < 256→decide (0≤Lib.indexByte smalls (UInt8.ofNat n)) = uz (UInt8.ofNat n):=by decide +kernel
theorem acE (c:UInt8):decide (0≤Lib.indexByte smalls c) = uz c:=by
 have h:=ZC c.toNat c.toNat_lt
 simpa using h
theorem ZE:∀ n,n < 256→ku.contains (UInt8.ofNat n) = jK (UInt8.ofNat n):=by decide +kernel
theorem acF (c:UInt8):ku.contains c = jK c:=by
 have h:=ZE c.toNat c.toNat_lt
 simpa using h
theorem dropWhile_nil {α:Type} (p:α→Bool):∀ l:List α,l.dropWhile p = []↔l.all p = true
 | [] => by simp
 | x :: l => by
  rw [List.dropWhile_cons]
  cases h:p x with
  | true => simp [dropWhile_nil p l,h]
  | false => simp [h]
theorem Cj {α:Type} (p q:α→Bool):∀ l:List α,(l.dropWhile p).all p = true→l.all p = true
 | [],_ => rfl
 | x :: l,h => by
  rw [List.dropWhile_cons] at h
  cases hp:p x with
  | true =>
   rw [hp] at h
   simp only [if_true] at h
   rw [List.all_cons,hp,Cj p q l h]; rfl
  | false => rw [hp] at h; simp [hp] at h
theorem ZF (l:List UInt8):(Lib.trimS l ku).isEmpty = l.all jK:=by
 have hf:(ku.contains ·) = jK:=funext acF
 unfold Lib.trimS Lib.trimLeftS Lib.trimRightS
 rw [hf]
 rw [Bool.eq_iff_iff,List.isEmpty_iff,dropWhile_nil,List.all_reverse]
 constructor
 · intro h
   have:=Cj jK jK _ h
   rwa [List.all_reverse] at this
 · intro h
   have e:(l.reverse.dropWhile jK) = []:=(dropWhile_nil _ _).2 (by rw [List.all_reverse]; exact h)
   rw [e]; rfl
theorem Pj (c:UInt8) (r:List UInt8):nU (c :: r) = (decide (r.length < 24) && uz c && r.all jK):=rfl
theorem Pm (c:UInt8) (h:uz c = true):jK c = true:=by unfold jK; rw [h]; rfl
end Go.Proofs.YtjcgiddgafjdpaaGreatDoor
