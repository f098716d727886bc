/- Names, as the library's words tell them. No program in sight. -/
import Derived.Test.YtjcgiddgafjdpaaGreatDoorFR1
import Derived.Lib.SlTrimSet
import Derived.Lib.IndexLaws
namespace Go.Proofs.YtjcgiddgafjdpaaGreatDoor
set_option linter.unusedVariables false
def smalls:List UInt8:=[97,98,99,100,101,102,103,104,105,106,107,108,109,110,111,112,113,114,115,116,117,118,119,120,121,122]
def othersL:List UInt8:=smalls ++ [48,49,50,51,52,53,54,55,56,57,95]
theorem small_all:∀ n,n < 256→decide (0≤Lib.indexByte smalls (UInt8.ofNat n)) = smallB (UInt8.ofNat n):=by decide +kernel
theorem small_at (c:UInt8):decide (0≤Lib.indexByte smalls c) = smallB c:=by
 have h:=small_all c.toNat c.toNat_lt
 simpa using h
theorem other_all:∀ n,n < 256→othersL.contains (UInt8.ofNat n) = otherB (UInt8.ofNat n):=by decide +kernel
theorem other_at (c:UInt8):othersL.contains c = otherB c:=by
 have h:=other_all c.toNat c.toNat_lt
 simpa using h
theorem dropWhile_nil {α:Type} (p:α→Bool):∀ l:List α,l.dropWhile p = []↔l.all p = true
 | [] => by simp
 | x :: l => by
  rw [List.dropWhile_cons]
  cases h:p x with
  | true => simp [dropWhile_nil p l,h]
  | false => simp [h]
theorem dropWhile_all {α:Type} (p q:α→Bool):∀ l:List α,(l.dropWhile p).all p = true→l.all p = true
 | [],_ => rfl
 | x :: l,h => by
  rw [List.dropWhile_cons] at h
  cases hp:p x with
  | true =>
   rw [hp] at h
   simp only [if_true] at h
   rw [List.all_cons,hp,dropWhile_all p q l h]; rfl
  | false => rw [hp] at h; simp [hp] at h
theorem trimS_nil (l:List UInt8):(Lib.trimS l othersL).isEmpty = l.all otherB:=by
 have hf:(othersL.contains ·) = otherB:=funext other_at
 unfold Lib.trimS Lib.trimLeftS Lib.trimRightS
 rw [hf]
 rw [Bool.eq_iff_iff,List.isEmpty_iff,dropWhile_nil,List.all_reverse]
 constructor
 · intro h
   have:=dropWhile_all otherB otherB _ h
   rwa [List.all_reverse] at this
 · intro h
   have e:(l.reverse.dropWhile otherB) = []:=(dropWhile_nil _ _).2 (by rw [List.all_reverse]; exact h)
   rw [e]; rfl
theorem isL_cons (c:UInt8) (r:List UInt8):isL (c :: r) = (decide (r.length < 24) && smallB c && r.all otherB):=rfl
theorem smallB_other (c:UInt8) (h:smallB c = true):otherB c = true:=by unfold otherB; rw [h]; rfl
end Go.Proofs.YtjcgiddgafjdpaaGreatDoor
