/- Names, as the library's words tell them. No program in sight. -/
import Derived.Test.YtjegdngblndkcaaGreatDoorDV1
import Derived.Lib.SlTrimSet
import Derived.Lib.IndexLaws
namespace Go.Proofs.YtjegdngblndkcaaGreatDoor
set_option linter.unusedVariables false
def smalls:List UInt8:=[97,98,99,100,101,102,103,104,105,106,107,108,109,110,111,112,113,114,115,116,117,118,119,120,121,122]
def jU:List UInt8:=smalls ++ [48,49,50,51,52,53,54,55,56,57,95]
theorem Zg:∀ n,n < 256→decide (0≤Lib.indexByte smalls (UInt8.ofNat n)) = uq (UInt8.ofNat n):=by decide +kernel
theorem acn (c:UInt8):decide (0≤Lib.indexByte smalls c) = uq c:=by
 have h:=Zg c.toNat c.toNat_lt
 simpa using h
theorem Zh:∀ n,n < 256→jU.contains (UInt8.ofNat n) = jC (UInt8.ofNat n):=by decide +kernel
theorem aco (c:UInt8):jU.contains c = jC c:=by
 have h:=Zh c.toNat c.toNat_lt
 simpa using h
theorem dropWhile_nil {α:Type} (p:α→Bool):∀ l:List α,l.dropWhile p = []↔l.all p = true
 | [] => by simp
 | x :: l => by
  rw [List.dropWhile_cons]
  cases h:p x with
  | true => simp [dropWhile_nil p l,h]
  | false => simp [h]
theorem CQ {α:Type} (p q:α→Bool):∀ l:List α,(l.dropWhile p).all p = true→l.all p = true
 | [],_ => rfl
 | x :: l,h => by
  rw [List.dropWhile_cons] at h
  cases hp:p x with
  | true =>
   rw [hp] at h
   simp only [if_true] at h
   rw [List.all_cons,hp,CQ p q l h]; rfl
  | false => rw [hp] at h; simp [hp] at h
theorem Zi (l:List UInt8):(Lib.trimS l jU).isEmpty = l.all jC:=by
 have hf:(jU.contains ·) = jC:=funext aco
 unfold Lib.trimS Lib.trimLeftS Lib.trimRightS
 rw [hf]
 rw [Bool.eq_iff_iff,List.isEmpty_iff,dropWhile_nil,List.all_reverse]
 constructor
 · intro h
   have:=CQ jC jC _ h
   rwa [List.all_reverse] at this
 · intro h
   have e:(l.reverse.dropWhile jC) = []:=(dropWhile_nil _ _).2 (by rw [List.all_reverse]; exact h)
   rw [e]; rfl
theorem P8 (c:UInt8) (r:List UInt8):nU (c :: r) = (decide (r.length < 24) && uq c && r.all jC):=rfl
theorem P9 (c:UInt8) (h:uq c = true):jC c = true:=by unfold jC; rw [h]; rfl
end Go.Proofs.YtjegdngblndkcaaGreatDoor
