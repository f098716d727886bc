/- Names, as the library's words tell them. No program in sight. -/
import Derived.Test.YtbhikopphamgjaaGreatDoorAU1
import Derived.Lib.SlTrimSet
import Derived.Lib.IndexLaws
set_option linter.unusedVariables false
namespace Go.Proofs.YtbhikopphamgjaaGreatDoor
def smalls:List UInt8:=[97,98,99,100,101,102,103,104,105,106,107,108,109,110,111,112,113,114,115,116,117,118,119,120,121,122]
def kK:List UInt8:=smalls ++ [48,49,50,51,52,53,54,55,56,57,95]
theorem aaL:∀ n,n < 256->decide (0<=Lib.indexByte smalls (UInt8.ofNat n)) = uT (UInt8.ofNat n):=by decide +kernel
theorem adR (c:UInt8):decide (0<=Lib.indexByte smalls c) = uT c:=by
 have h:=aaL c.toNat c.toNat_lt
 simpa using h
theorem aaM:∀ n,n < 256->kK.contains (UInt8.ofNat n) = jS (UInt8.ofNat n):=by decide +kernel
theorem adS (c:UInt8):kK.contains c = jS c:=by
 have h:=aaM c.toNat c.toNat_lt
 simpa using h
theorem dropWhile_nil {α:Type} (p:α->Bool):∀ l:List α,l.dropWhile p = []↔l.all p = true
 | [] => by simp
 | x :: l => by
  rw [List.dropWhile_cons]
  cases h:p x with
  | true => simp [dropWhile_nil p l,h]
  | false => simp [h]
theorem DK {α:Type} (p q:α->Bool):∀ l:List α,(l.dropWhile p).all p = true->l.all p = true
 | [],_ => rfl
 | x :: l,h => by
  rw [List.dropWhile_cons] at h
  cases hp:p x with
  | true =>
   rw [hp] at h;simp only [if_true] at h;rw [List.all_cons,hp,DK p q l h]; rfl
  | false => rw [hp] at h; simp [hp] at h
theorem aaN (l:List UInt8):(Lib.trimS l kK).isEmpty = l.all jS:=by
 have hf:(kK.contains ·) = jS:=funext adS
 unfold Lib.trimS Lib.trimLeftS Lib.trimRightS;rw [hf];rw [Bool.eq_iff_iff,List.isEmpty_iff,dropWhile_nil,List.all_reverse];constructor
 . intro h
   have:=DK jS jS _ h;rwa [List.all_reverse] at this
 . intro h
   have e:(l.reverse.dropWhile jS) = []:=(dropWhile_nil _ _).2 (by rw [List.all_reverse]; exact h);rw [e]; rfl
theorem QW (c:UInt8) (r:List UInt8):oI (c :: r) = (decide (r.length < 24) && uT c && r.all jS):=rfl
theorem QX (c:UInt8) (h:uT c = true):jS c = true:=by unfold jS; rw [h]; rfl
end Go.Proofs.YtbhikopphamgjaaGreatDoor
