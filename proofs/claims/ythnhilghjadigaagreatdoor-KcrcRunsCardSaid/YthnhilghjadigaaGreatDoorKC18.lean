/- Texts of this claim, side by side: ImgC, ImgC1, ImgC2, ImgC3, ImgC4, ImgC5, ImgC6, ImgC7, ImgC8, ImgC9, KimgCrc, Ref11K, Ref30, Ref22S. -/
import Derived.Test.YthnhilghjadigaaGreatDoorKrunC
import Derived.Test.YthnhilghjadigaaGreatDoorKC17
import Derived.Test.YthnhilghjadigaaGreatDoorKC9
import Derived.Test.YthnhilghjadigaaGreatDoorKC8
import Derived.Test.YthnhilghjadigaaGreatDoorKC16
/- What is asked of kcrc's images, as the maker makes them. -/
namespace Go.Proofs.YthnhilghjadigaaGreatDoor
open Go Go.RowKit Go.Proofs.YthnhilghjadigaaGreatDoor.Ab Go.Proofs.YthnhilghjadigaaGreatDoor.Xi
set_option linter.unusedVariables false
noncomputable def stC (n : Nat) (b : MP) : KS := stOf (runMk cxK 2000 18 [wkK b, .lit (.int .i64 0), .lit (.int .i64 (n : Int))] [] (ks0.given n))
structure MkC (n : Nat) (i : CrcImg) (b : MP) : Prop where
 run : runMk cxK 2000 18 [wkK b, .lit (.int .i64 0), .lit (.int .i64 (n : Int))] [] (ks0.given n) = some (.one i.out, stC n b, List.replicate 24 ⟨b.a, 0, none⟩)
 fin : finN (((stC n b).answer [i.out]).ins ⟨43, 0, 0, 0, 0⟩) = some ((wordsOf i.code i.nc).map fun w : Nat => (w : Int))
 ok : (((stC n b).answer [i.out]).ins ⟨43, 0, 0, 0, 0⟩).finOk = true
 ru : Nat.ble ((stC n b).answer [i.out]).ru.length 100000 = true
 ro : Nat.ble ((stC n b).ro.length + 1) 2048 = true
 dat : dataL ((stC n b).answer [i.out]) = i.data
 secs : secsOf ((stC n b).answer [i.out]).rr.reverse = i.sec
 ins : ((stC n b).answer [i.out]).ri.reverse = List.range n
 outz : ((stC n b).answer [i.out]).ro.reverse = [i.out]
end Go.Proofs.YthnhilghjadigaaGreatDoor

/- kcrc's images (1 to 8 bytes), reckoned by the kernel. -/
namespace Go.Proofs.YthnhilghjadigaaGreatDoor
open Go Go.RowKit Go.Proofs.YthnhilghjadigaaGreatDoor.Ab Go.Proofs.YthnhilghjadigaaGreatDoor.Xi
set_option linter.unusedVariables false
set_option maxRecDepth 100000
theorem mkC1 (b : MP) : MkC 1 imgC1 b where
 run := by kernel_rfl
 fin := by kernel_rfl
 ok := by kernel_rfl
 ru := by kernel_rfl
 ro := by kernel_rfl
 dat := by kernel_rfl
 secs := by kernel_rfl
 ins := by kernel_rfl
 outz := by kernel_rfl
theorem mkC2 (b : MP) : MkC 2 imgC2 b where
 run := by kernel_rfl
 fin := by kernel_rfl
 ok := by kernel_rfl
 ru := by kernel_rfl
 ro := by kernel_rfl
 dat := by kernel_rfl
 secs := by kernel_rfl
 ins := by kernel_rfl
 outz := by kernel_rfl
theorem mkC3 (b : MP) : MkC 3 imgC3 b where
 run := by kernel_rfl
 fin := by kernel_rfl
 ok := by kernel_rfl
 ru := by kernel_rfl
 ro := by kernel_rfl
 dat := by kernel_rfl
 secs := by kernel_rfl
 ins := by kernel_rfl
 outz := by kernel_rfl
theorem mkC4 (b : MP) : MkC 4 imgC4 b where
 run := by kernel_rfl
 fin := by kernel_rfl
 ok := by kernel_rfl
 ru := by kernel_rfl
 ro := by kernel_rfl
 dat := by kernel_rfl
 secs := by kernel_rfl
 ins := by kernel_rfl
 outz := by kernel_rfl
theorem mkC5 (b : MP) : MkC 5 imgC5 b where
 run := by kernel_rfl
 fin := by kernel_rfl
 ok := by kernel_rfl
 ru := by kernel_rfl
 ro := by kernel_rfl
 dat := by kernel_rfl
 secs := by kernel_rfl
 ins := by kernel_rfl
 outz := by kernel_rfl
theorem mkC6 (b : MP) : MkC 6 imgC6 b where
 run := by kernel_rfl
 fin := by kernel_rfl
 ok := by kernel_rfl
 ru := by kernel_rfl
 ro := by kernel_rfl
 dat := by kernel_rfl
 secs := by kernel_rfl
 ins := by kernel_rfl
 outz := by kernel_rfl
theorem mkC7 (b : MP) : MkC 7 imgC7 b where
 run := by kernel_rfl
 fin := by kernel_rfl
 ok := by kernel_rfl
 ru := by kernel_rfl
 ro := by kernel_rfl
 dat := by kernel_rfl
 secs := by kernel_rfl
 ins := by kernel_rfl
 outz := by kernel_rfl
theorem mkC8 (b : MP) : MkC 8 imgC8 b where
 run := by kernel_rfl
 fin := by kernel_rfl
 ok := by kernel_rfl
 ru := by kernel_rfl
 ro := by kernel_rfl
 dat := by kernel_rfl
 secs := by kernel_rfl
 ins := by kernel_rfl
 outz := by kernel_rfl
end Go.Proofs.YthnhilghjadigaaGreatDoor

/- kcrc's images (9 to 16 bytes), reckoned by the kernel. -/
namespace Go.Proofs.YthnhilghjadigaaGreatDoor
open Go Go.RowKit Go.Proofs.YthnhilghjadigaaGreatDoor.Ab Go.Proofs.YthnhilghjadigaaGreatDoor.Xi
set_option linter.unusedVariables false
set_option maxRecDepth 100000
theorem mkC9 (b : MP) : MkC 9 imgC9 b where
 run := by kernel_rfl
 fin := by kernel_rfl
 ok := by kernel_rfl
 ru := by kernel_rfl
 ro := by kernel_rfl
 dat := by kernel_rfl
 secs := by kernel_rfl
 ins := by kernel_rfl
 outz := by kernel_rfl
theorem mkC10 (b : MP) : MkC 10 imgC10 b where
 run := by kernel_rfl
 fin := by kernel_rfl
 ok := by kernel_rfl
 ru := by kernel_rfl
 ro := by kernel_rfl
 dat := by kernel_rfl
 secs := by kernel_rfl
 ins := by kernel_rfl
 outz := by kernel_rfl
theorem mkC11 (b : MP) : MkC 11 imgC11 b where
 run := by kernel_rfl
 fin := by kernel_rfl
 ok := by kernel_rfl
 ru := by kernel_rfl
 ro := by kernel_rfl
 dat := by kernel_rfl
 secs := by kernel_rfl
 ins := by kernel_rfl
 outz := by kernel_rfl
theorem mkC12 (b : MP) : MkC 12 imgC12 b where
 run := by kernel_rfl
 fin := by kernel_rfl
 ok := by kernel_rfl
 ru := by kernel_rfl
 ro := by kernel_rfl
 dat := by kernel_rfl
 secs := by kernel_rfl
 ins := by kernel_rfl
 outz := by kernel_rfl
theorem mkC13 (b : MP) : MkC 13 imgC13 b where
 run := by kernel_rfl
 fin := by kernel_rfl
 ok := by kernel_rfl
 ru := by kernel_rfl
 ro := by kernel_rfl
 dat := by kernel_rfl
 secs := by kernel_rfl
 ins := by kernel_rfl
 outz := by kernel_rfl
theorem mkC14 (b : MP) : MkC 14 imgC14 b where
 run := by kernel_rfl
 fin := by kernel_rfl
 ok := by kernel_rfl
 ru := by kernel_rfl
 ro := by kernel_rfl
 dat := by kernel_rfl
 secs := by kernel_rfl
 ins := by kernel_rfl
 outz := by kernel_rfl
theorem mkC15 (b : MP) : MkC 15 imgC15 b where
 run := by kernel_rfl
 fin := by kernel_rfl
 ok := by kernel_rfl
 ru := by kernel_rfl
 ro := by kernel_rfl
 dat := by kernel_rfl
 secs := by kernel_rfl
 ins := by kernel_rfl
 outz := by kernel_rfl
theorem mkC16 (b : MP) : MkC 16 imgC16 b where
 run := by kernel_rfl
 fin := by kernel_rfl
 ok := by kernel_rfl
 ru := by kernel_rfl
 ro := by kernel_rfl
 dat := by kernel_rfl
 secs := by kernel_rfl
 ins := by kernel_rfl
 outz := by kernel_rfl
end Go.Proofs.YthnhilghjadigaaGreatDoor

/- kcrc's images (17 to 24 bytes), reckoned by the kernel. -/
namespace Go.Proofs.YthnhilghjadigaaGreatDoor
open Go Go.RowKit Go.Proofs.YthnhilghjadigaaGreatDoor.Ab Go.Proofs.YthnhilghjadigaaGreatDoor.Xi
set_option linter.unusedVariables false
set_option maxRecDepth 100000
theorem mkC17 (b : MP) : MkC 17 imgC17 b where
 run := by kernel_rfl
 fin := by kernel_rfl
 ok := by kernel_rfl
 ru := by kernel_rfl
 ro := by kernel_rfl
 dat := by kernel_rfl
 secs := by kernel_rfl
 ins := by kernel_rfl
 outz := by kernel_rfl
theorem mkC18 (b : MP) : MkC 18 imgC18 b where
 run := by kernel_rfl
 fin := by kernel_rfl
 ok := by kernel_rfl
 ru := by kernel_rfl
 ro := by kernel_rfl
 dat := by kernel_rfl
 secs := by kernel_rfl
 ins := by kernel_rfl
 outz := by kernel_rfl
theorem mkC19 (b : MP) : MkC 19 imgC19 b where
 run := by kernel_rfl
 fin := by kernel_rfl
 ok := by kernel_rfl
 ru := by kernel_rfl
 ro := by kernel_rfl
 dat := by kernel_rfl
 secs := by kernel_rfl
 ins := by kernel_rfl
 outz := by kernel_rfl
theorem mkC20 (b : MP) : MkC 20 imgC20 b where
 run := by kernel_rfl
 fin := by kernel_rfl
 ok := by kernel_rfl
 ru := by kernel_rfl
 ro := by kernel_rfl
 dat := by kernel_rfl
 secs := by kernel_rfl
 ins := by kernel_rfl
 outz := by kernel_rfl
theorem mkC21 (b : MP) : MkC 21 imgC21 b where
 run := by kernel_rfl
 fin := by kernel_rfl
 ok := by kernel_rfl
 ru := by kernel_rfl
 ro := by kernel_rfl
 dat := by kernel_rfl
 secs := by kernel_rfl
 ins := by kernel_rfl
 outz := by kernel_rfl
theorem mkC22 (b : MP) : MkC 22 imgC22 b where
 run := by kernel_rfl
 fin := by kernel_rfl
 ok := by kernel_rfl
 ru := by kernel_rfl
 ro := by kernel_rfl
 dat := by kernel_rfl
 secs := by kernel_rfl
 ins := by kernel_rfl
 outz := by kernel_rfl
theorem mkC23 (b : MP) : MkC 23 imgC23 b where
 run := by kernel_rfl
 fin := by kernel_rfl
 ok := by kernel_rfl
 ru := by kernel_rfl
 ro := by kernel_rfl
 dat := by kernel_rfl
 secs := by kernel_rfl
 ins := by kernel_rfl
 outz := by kernel_rfl
theorem mkC24 (b : MP) : MkC 24 imgC24 b where
 run := by kernel_rfl
 fin := by kernel_rfl
 ok := by kernel_rfl
 ru := by kernel_rfl
 ro := by kernel_rfl
 dat := by kernel_rfl
 secs := by kernel_rfl
 ins := by kernel_rfl
 outz := by kernel_rfl
end Go.Proofs.YthnhilghjadigaaGreatDoor

/- kcrc's images (25 to 32 bytes), reckoned by the kernel. -/
namespace Go.Proofs.YthnhilghjadigaaGreatDoor
open Go Go.RowKit Go.Proofs.YthnhilghjadigaaGreatDoor.Ab Go.Proofs.YthnhilghjadigaaGreatDoor.Xi
set_option linter.unusedVariables false
set_option maxRecDepth 100000
theorem mkC25 (b : MP) : MkC 25 imgC25 b where
 run := by kernel_rfl
 fin := by kernel_rfl
 ok := by kernel_rfl
 ru := by kernel_rfl
 ro := by kernel_rfl
 dat := by kernel_rfl
 secs := by kernel_rfl
 ins := by kernel_rfl
 outz := by kernel_rfl
theorem mkC26 (b : MP) : MkC 26 imgC26 b where
 run := by kernel_rfl
 fin := by kernel_rfl
 ok := by kernel_rfl
 ru := by kernel_rfl
 ro := by kernel_rfl
 dat := by kernel_rfl
 secs := by kernel_rfl
 ins := by kernel_rfl
 outz := by kernel_rfl
theorem mkC27 (b : MP) : MkC 27 imgC27 b where
 run := by kernel_rfl
 fin := by kernel_rfl
 ok := by kernel_rfl
 ru := by kernel_rfl
 ro := by kernel_rfl
 dat := by kernel_rfl
 secs := by kernel_rfl
 ins := by kernel_rfl
 outz := by kernel_rfl
theorem mkC28 (b : MP) : MkC 28 imgC28 b where
 run := by kernel_rfl
 fin := by kernel_rfl
 ok := by kernel_rfl
 ru := by kernel_rfl
 ro := by kernel_rfl
 dat := by kernel_rfl
 secs := by kernel_rfl
 ins := by kernel_rfl
 outz := by kernel_rfl
theorem mkC29 (b : MP) : MkC 29 imgC29 b where
 run := by kernel_rfl
 fin := by kernel_rfl
 ok := by kernel_rfl
 ru := by kernel_rfl
 ro := by kernel_rfl
 dat := by kernel_rfl
 secs := by kernel_rfl
 ins := by kernel_rfl
 outz := by kernel_rfl
theorem mkC30 (b : MP) : MkC 30 imgC30 b where
 run := by kernel_rfl
 fin := by kernel_rfl
 ok := by kernel_rfl
 ru := by kernel_rfl
 ro := by kernel_rfl
 dat := by kernel_rfl
 secs := by kernel_rfl
 ins := by kernel_rfl
 outz := by kernel_rfl
theorem mkC31 (b : MP) : MkC 31 imgC31 b where
 run := by kernel_rfl
 fin := by kernel_rfl
 ok := by kernel_rfl
 ru := by kernel_rfl
 ro := by kernel_rfl
 dat := by kernel_rfl
 secs := by kernel_rfl
 ins := by kernel_rfl
 outz := by kernel_rfl
theorem mkC32 (b : MP) : MkC 32 imgC32 b where
 run := by kernel_rfl
 fin := by kernel_rfl
 ok := by kernel_rfl
 ru := by kernel_rfl
 ro := by kernel_rfl
 dat := by kernel_rfl
 secs := by kernel_rfl
 ins := by kernel_rfl
 outz := by kernel_rfl
end Go.Proofs.YthnhilghjadigaaGreatDoor

/- kcrc's images (33 to 40 bytes), reckoned by the kernel. -/
namespace Go.Proofs.YthnhilghjadigaaGreatDoor
open Go Go.RowKit Go.Proofs.YthnhilghjadigaaGreatDoor.Ab Go.Proofs.YthnhilghjadigaaGreatDoor.Xi
set_option linter.unusedVariables false
set_option maxRecDepth 100000
theorem mkC33 (b : MP) : MkC 33 imgC33 b where
 run := by kernel_rfl
 fin := by kernel_rfl
 ok := by kernel_rfl
 ru := by kernel_rfl
 ro := by kernel_rfl
 dat := by kernel_rfl
 secs := by kernel_rfl
 ins := by kernel_rfl
 outz := by kernel_rfl
theorem mkC34 (b : MP) : MkC 34 imgC34 b where
 run := by kernel_rfl
 fin := by kernel_rfl
 ok := by kernel_rfl
 ru := by kernel_rfl
 ro := by kernel_rfl
 dat := by kernel_rfl
 secs := by kernel_rfl
 ins := by kernel_rfl
 outz := by kernel_rfl
theorem mkC35 (b : MP) : MkC 35 imgC35 b where
 run := by kernel_rfl
 fin := by kernel_rfl
 ok := by kernel_rfl
 ru := by kernel_rfl
 ro := by kernel_rfl
 dat := by kernel_rfl
 secs := by kernel_rfl
 ins := by kernel_rfl
 outz := by kernel_rfl
theorem mkC36 (b : MP) : MkC 36 imgC36 b where
 run := by kernel_rfl
 fin := by kernel_rfl
 ok := by kernel_rfl
 ru := by kernel_rfl
 ro := by kernel_rfl
 dat := by kernel_rfl
 secs := by kernel_rfl
 ins := by kernel_rfl
 outz := by kernel_rfl
theorem mkC37 (b : MP) : MkC 37 imgC37 b where
 run := by kernel_rfl
 fin := by kernel_rfl
 ok := by kernel_rfl
 ru := by kernel_rfl
 ro := by kernel_rfl
 dat := by kernel_rfl
 secs := by kernel_rfl
 ins := by kernel_rfl
 outz := by kernel_rfl
theorem mkC38 (b : MP) : MkC 38 imgC38 b where
 run := by kernel_rfl
 fin := by kernel_rfl
 ok := by kernel_rfl
 ru := by kernel_rfl
 ro := by kernel_rfl
 dat := by kernel_rfl
 secs := by kernel_rfl
 ins := by kernel_rfl
 outz := by kernel_rfl
theorem mkC39 (b : MP) : MkC 39 imgC39 b where
 run := by kernel_rfl
 fin := by kernel_rfl
 ok := by kernel_rfl
 ru := by kernel_rfl
 ro := by kernel_rfl
 dat := by kernel_rfl
 secs := by kernel_rfl
 ins := by kernel_rfl
 outz := by kernel_rfl
theorem mkC40 (b : MP) : MkC 40 imgC40 b where
 run := by kernel_rfl
 fin := by kernel_rfl
 ok := by kernel_rfl
 ru := by kernel_rfl
 ro := by kernel_rfl
 dat := by kernel_rfl
 secs := by kernel_rfl
 ins := by kernel_rfl
 outz := by kernel_rfl
end Go.Proofs.YthnhilghjadigaaGreatDoor

/- kcrc's images (41 to 48 bytes), reckoned by the kernel. -/
namespace Go.Proofs.YthnhilghjadigaaGreatDoor
open Go Go.RowKit Go.Proofs.YthnhilghjadigaaGreatDoor.Ab Go.Proofs.YthnhilghjadigaaGreatDoor.Xi
set_option linter.unusedVariables false
set_option maxRecDepth 100000
theorem mkC41 (b : MP) : MkC 41 imgC41 b where
 run := by kernel_rfl
 fin := by kernel_rfl
 ok := by kernel_rfl
 ru := by kernel_rfl
 ro := by kernel_rfl
 dat := by kernel_rfl
 secs := by kernel_rfl
 ins := by kernel_rfl
 outz := by kernel_rfl
theorem mkC42 (b : MP) : MkC 42 imgC42 b where
 run := by kernel_rfl
 fin := by kernel_rfl
 ok := by kernel_rfl
 ru := by kernel_rfl
 ro := by kernel_rfl
 dat := by kernel_rfl
 secs := by kernel_rfl
 ins := by kernel_rfl
 outz := by kernel_rfl
theorem mkC43 (b : MP) : MkC 43 imgC43 b where
 run := by kernel_rfl
 fin := by kernel_rfl
 ok := by kernel_rfl
 ru := by kernel_rfl
 ro := by kernel_rfl
 dat := by kernel_rfl
 secs := by kernel_rfl
 ins := by kernel_rfl
 outz := by kernel_rfl
theorem mkC44 (b : MP) : MkC 44 imgC44 b where
 run := by kernel_rfl
 fin := by kernel_rfl
 ok := by kernel_rfl
 ru := by kernel_rfl
 ro := by kernel_rfl
 dat := by kernel_rfl
 secs := by kernel_rfl
 ins := by kernel_rfl
 outz := by kernel_rfl
theorem mkC45 (b : MP) : MkC 45 imgC45 b where
 run := by kernel_rfl
 fin := by kernel_rfl
 ok := by kernel_rfl
 ru := by kernel_rfl
 ro := by kernel_rfl
 dat := by kernel_rfl
 secs := by kernel_rfl
 ins := by kernel_rfl
 outz := by kernel_rfl
theorem mkC46 (b : MP) : MkC 46 imgC46 b where
 run := by kernel_rfl
 fin := by kernel_rfl
 ok := by kernel_rfl
 ru := by kernel_rfl
 ro := by kernel_rfl
 dat := by kernel_rfl
 secs := by kernel_rfl
 ins := by kernel_rfl
 outz := by kernel_rfl
theorem mkC47 (b : MP) : MkC 47 imgC47 b where
 run := by kernel_rfl
 fin := by kernel_rfl
 ok := by kernel_rfl
 ru := by kernel_rfl
 ro := by kernel_rfl
 dat := by kernel_rfl
 secs := by kernel_rfl
 ins := by kernel_rfl
 outz := by kernel_rfl
theorem mkC48 (b : MP) : MkC 48 imgC48 b where
 run := by kernel_rfl
 fin := by kernel_rfl
 ok := by kernel_rfl
 ru := by kernel_rfl
 ro := by kernel_rfl
 dat := by kernel_rfl
 secs := by kernel_rfl
 ins := by kernel_rfl
 outz := by kernel_rfl
end Go.Proofs.YthnhilghjadigaaGreatDoor

/- kcrc's images (49 to 56 bytes), reckoned by the kernel. -/
namespace Go.Proofs.YthnhilghjadigaaGreatDoor
open Go Go.RowKit Go.Proofs.YthnhilghjadigaaGreatDoor.Ab Go.Proofs.YthnhilghjadigaaGreatDoor.Xi
set_option linter.unusedVariables false
set_option maxRecDepth 100000
theorem mkC49 (b : MP) : MkC 49 imgC49 b where
 run := by kernel_rfl
 fin := by kernel_rfl
 ok := by kernel_rfl
 ru := by kernel_rfl
 ro := by kernel_rfl
 dat := by kernel_rfl
 secs := by kernel_rfl
 ins := by kernel_rfl
 outz := by kernel_rfl
theorem mkC50 (b : MP) : MkC 50 imgC50 b where
 run := by kernel_rfl
 fin := by kernel_rfl
 ok := by kernel_rfl
 ru := by kernel_rfl
 ro := by kernel_rfl
 dat := by kernel_rfl
 secs := by kernel_rfl
 ins := by kernel_rfl
 outz := by kernel_rfl
theorem mkC51 (b : MP) : MkC 51 imgC51 b where
 run := by kernel_rfl
 fin := by kernel_rfl
 ok := by kernel_rfl
 ru := by kernel_rfl
 ro := by kernel_rfl
 dat := by kernel_rfl
 secs := by kernel_rfl
 ins := by kernel_rfl
 outz := by kernel_rfl
theorem mkC52 (b : MP) : MkC 52 imgC52 b where
 run := by kernel_rfl
 fin := by kernel_rfl
 ok := by kernel_rfl
 ru := by kernel_rfl
 ro := by kernel_rfl
 dat := by kernel_rfl
 secs := by kernel_rfl
 ins := by kernel_rfl
 outz := by kernel_rfl
theorem mkC53 (b : MP) : MkC 53 imgC53 b where
 run := by kernel_rfl
 fin := by kernel_rfl
 ok := by kernel_rfl
 ru := by kernel_rfl
 ro := by kernel_rfl
 dat := by kernel_rfl
 secs := by kernel_rfl
 ins := by kernel_rfl
 outz := by kernel_rfl
theorem mkC54 (b : MP) : MkC 54 imgC54 b where
 run := by kernel_rfl
 fin := by kernel_rfl
 ok := by kernel_rfl
 ru := by kernel_rfl
 ro := by kernel_rfl
 dat := by kernel_rfl
 secs := by kernel_rfl
 ins := by kernel_rfl
 outz := by kernel_rfl
theorem mkC55 (b : MP) : MkC 55 imgC55 b where
 run := by kernel_rfl
 fin := by kernel_rfl
 ok := by kernel_rfl
 ru := by kernel_rfl
 ro := by kernel_rfl
 dat := by kernel_rfl
 secs := by kernel_rfl
 ins := by kernel_rfl
 outz := by kernel_rfl
theorem mkC56 (b : MP) : MkC 56 imgC56 b where
 run := by kernel_rfl
 fin := by kernel_rfl
 ok := by kernel_rfl
 ru := by kernel_rfl
 ro := by kernel_rfl
 dat := by kernel_rfl
 secs := by kernel_rfl
 ins := by kernel_rfl
 outz := by kernel_rfl
end Go.Proofs.YthnhilghjadigaaGreatDoor

/- kcrc's images (57 to 64 bytes), reckoned by the kernel. -/
namespace Go.Proofs.YthnhilghjadigaaGreatDoor
open Go Go.RowKit Go.Proofs.YthnhilghjadigaaGreatDoor.Ab Go.Proofs.YthnhilghjadigaaGreatDoor.Xi
set_option linter.unusedVariables false
set_option maxRecDepth 100000
theorem mkC57 (b : MP) : MkC 57 imgC57 b where
 run := by kernel_rfl
 fin := by kernel_rfl
 ok := by kernel_rfl
 ru := by kernel_rfl
 ro := by kernel_rfl
 dat := by kernel_rfl
 secs := by kernel_rfl
 ins := by kernel_rfl
 outz := by kernel_rfl
theorem mkC58 (b : MP) : MkC 58 imgC58 b where
 run := by kernel_rfl
 fin := by kernel_rfl
 ok := by kernel_rfl
 ru := by kernel_rfl
 ro := by kernel_rfl
 dat := by kernel_rfl
 secs := by kernel_rfl
 ins := by kernel_rfl
 outz := by kernel_rfl
theorem mkC59 (b : MP) : MkC 59 imgC59 b where
 run := by kernel_rfl
 fin := by kernel_rfl
 ok := by kernel_rfl
 ru := by kernel_rfl
 ro := by kernel_rfl
 dat := by kernel_rfl
 secs := by kernel_rfl
 ins := by kernel_rfl
 outz := by kernel_rfl
theorem mkC60 (b : MP) : MkC 60 imgC60 b where
 run := by kernel_rfl
 fin := by kernel_rfl
 ok := by kernel_rfl
 ru := by kernel_rfl
 ro := by kernel_rfl
 dat := by kernel_rfl
 secs := by kernel_rfl
 ins := by kernel_rfl
 outz := by kernel_rfl
theorem mkC61 (b : MP) : MkC 61 imgC61 b where
 run := by kernel_rfl
 fin := by kernel_rfl
 ok := by kernel_rfl
 ru := by kernel_rfl
 ro := by kernel_rfl
 dat := by kernel_rfl
 secs := by kernel_rfl
 ins := by kernel_rfl
 outz := by kernel_rfl
theorem mkC62 (b : MP) : MkC 62 imgC62 b where
 run := by kernel_rfl
 fin := by kernel_rfl
 ok := by kernel_rfl
 ru := by kernel_rfl
 ro := by kernel_rfl
 dat := by kernel_rfl
 secs := by kernel_rfl
 ins := by kernel_rfl
 outz := by kernel_rfl
theorem mkC63 (b : MP) : MkC 63 imgC63 b where
 run := by kernel_rfl
 fin := by kernel_rfl
 ok := by kernel_rfl
 ru := by kernel_rfl
 ro := by kernel_rfl
 dat := by kernel_rfl
 secs := by kernel_rfl
 ins := by kernel_rfl
 outz := by kernel_rfl
theorem mkC64 (b : MP) : MkC 64 imgC64 b where
 run := by kernel_rfl
 fin := by kernel_rfl
 ok := by kernel_rfl
 ru := by kernel_rfl
 ro := by kernel_rfl
 dat := by kernel_rfl
 secs := by kernel_rfl
 ins := by kernel_rfl
 outz := by kernel_rfl
end Go.Proofs.YthnhilghjadigaaGreatDoor

/- kcrc's images, all of them. -/
namespace Go.Proofs.YthnhilghjadigaaGreatDoor
open Go Go.RowKit Go.Proofs.YthnhilghjadigaaGreatDoor.Ab Go.Proofs.YthnhilghjadigaaGreatDoor.Xi
theorem mkC (n : Nat) (h1 : 1 ≤ n) (h2 : n ≤ 64) (b : MP) : MkC n (imgC n) b := by
 match n, h1, h2 with
 | 1, _, _ => exact mkC1 b
 | 2, _, _ => exact mkC2 b
 | 3, _, _ => exact mkC3 b
 | 4, _, _ => exact mkC4 b
 | 5, _, _ => exact mkC5 b
 | 6, _, _ => exact mkC6 b
 | 7, _, _ => exact mkC7 b
 | 8, _, _ => exact mkC8 b
 | 9, _, _ => exact mkC9 b
 | 10, _, _ => exact mkC10 b
 | 11, _, _ => exact mkC11 b
 | 12, _, _ => exact mkC12 b
 | 13, _, _ => exact mkC13 b
 | 14, _, _ => exact mkC14 b
 | 15, _, _ => exact mkC15 b
 | 16, _, _ => exact mkC16 b
 | 17, _, _ => exact mkC17 b
 | 18, _, _ => exact mkC18 b
 | 19, _, _ => exact mkC19 b
 | 20, _, _ => exact mkC20 b
 | 21, _, _ => exact mkC21 b
 | 22, _, _ => exact mkC22 b
 | 23, _, _ => exact mkC23 b
 | 24, _, _ => exact mkC24 b
 | 25, _, _ => exact mkC25 b
 | 26, _, _ => exact mkC26 b
 | 27, _, _ => exact mkC27 b
 | 28, _, _ => exact mkC28 b
 | 29, _, _ => exact mkC29 b
 | 30, _, _ => exact mkC30 b
 | 31, _, _ => exact mkC31 b
 | 32, _, _ => exact mkC32 b
 | 33, _, _ => exact mkC33 b
 | 34, _, _ => exact mkC34 b
 | 35, _, _ => exact mkC35 b
 | 36, _, _ => exact mkC36 b
 | 37, _, _ => exact mkC37 b
 | 38, _, _ => exact mkC38 b
 | 39, _, _ => exact mkC39 b
 | 40, _, _ => exact mkC40 b
 | 41, _, _ => exact mkC41 b
 | 42, _, _ => exact mkC42 b
 | 43, _, _ => exact mkC43 b
 | 44, _, _ => exact mkC44 b
 | 45, _, _ => exact mkC45 b
 | 46, _, _ => exact mkC46 b
 | 47, _, _ => exact mkC47 b
 | 48, _, _ => exact mkC48 b
 | 49, _, _ => exact mkC49 b
 | 50, _, _ => exact mkC50 b
 | 51, _, _ => exact mkC51 b
 | 52, _, _ => exact mkC52 b
 | 53, _, _ => exact mkC53 b
 | 54, _, _ => exact mkC54 b
 | 55, _, _ => exact mkC55 b
 | 56, _, _ => exact mkC56 b
 | 57, _, _ => exact mkC57 b
 | 58, _, _ => exact mkC58 b
 | 59, _, _ => exact mkC59 b
 | 60, _, _ => exact mkC60 b
 | 61, _, _ => exact mkC61 b
 | 62, _, _ => exact mkC62 b
 | 63, _, _ => exact mkC63 b
 | 64, _, _ => exact mkC64 b
 | n + 65, _, h => exact absurd h (by omega)
end Go.Proofs.YthnhilghjadigaaGreatDoor

/- kcrc.Image. -/
namespace Go.Proofs.YthnhilghjadigaaGreatDoor
open Go Go.RowKit Go.Deep Go.Maps Go.Proofs.YthnhilghjadigaaGreatDoor.Ab Go.Proofs.YthnhilghjadigaaGreatDoor.Xi
set_option linter.unusedVariables false
attribute [local go_sem] Oper.semAt_some
theorem results_ct {fn : Func} {c u : Tmp} {T : TypeId} (h : fn.results = #[.cell c T, .tmp u]) (tmps : Array Value) (P : Program) (w : World) {A : Addr} {v : Value} (ha : tmps.getD c undef = .pointer (some A)) (hl : (loadVar T A).run P w = .ok v w) :
 (results fn tmps).run P w = .ok (.tuple #[v, tmps.getD u undef]) w := by
 have e : results fn tmps = (do let vs ← fn.results.mapM (Xi.resF tmps); pure (if h : vs.size = 1 then vs[0] else .tuple vs)) := rfl
 rw [e, h, Array.mapM_eq_mapM_toList]
 simp [Xi.resF, ha, asAddr, hl]
theorem can64 : ∀ n, n ≤ 64 → ks0.can n = true := by decide
set_option maxRecDepth 100000 in
set_option maxHeartbeats 2000000 in
theorem kcrc_image (w : World) (hg : Glo w) (n : Nat) (h1 : 1 ≤ n) (h2 : n ≤ 64) :
 Calls Tryz.prog 6 #[.int .i64 (n : Int)] w fun e w' => ∃ v, e = .returned (.tuple #[v, .int .i64 0]) ∧ Chg w w' [] ∧ ImgAt w' v ((wordsOf (imgC n).code (imgC n).nc).map fun w : Nat => (w : Int)) (imgC n).data (imgC n).sec (List.range n) [(imgC n).out] := by
 have hMK := fun b => mkC n h1 h2 b
 generalize imgC n = i at *
 have hn := mnew_calls (w.alloc (.cells #[.slice none 0 0, .slice none 0 0, .slice none 0 0, .slice none 0 0, .slice none 0 0] 29)) (hg.chg ((Chg.refl w []).alloc _) (by simp))
 have hq := Blk.new w 29 nil5
 have hz0 : (w.alloc (.cells #[.slice none 0 0, .slice none 0 0, .slice none 0 0, .slice none 0 0, .slice none 0 0] 29)).heap.size = w.heap.size + 1 := size_alloc _ _
 have d1 : decide ((n : Int) < 1) = false := decide_eq_false (by omega)
 have d2 : decide ((64 : Int) < (n : Int)) = false := decide_eq_false (by omega)
 clear hg
 go_enter Tryz.func6, Tryz.ntmps6
 go_wp2_with fail
 go_at_call 15
 refine hn.mono ?_
 rintro e w1 ⟨b, F1, rfl, hc1, hk1, hf1⟩
 have hq1 := hq.chg hc1 (by simp)
 have HC1 : Hid (Chg w w1 []) := hide (((Chg.refl w []).alloc _).trans hc1 (by simp))
 have HF1 := hide (show ∀ k ∈ F1, w.heap.size + 1 ≤ k from fun k hk => hz0 ▸ hf1 k hk)
 have HQ1 := hide hq1
 have HMK := hide (hMK b)
 have hgv := given_calls hk1 n h1 (can64 n h2)
 clear hn hq hc1 hk1 hf1 hq1 hz0 d1 d2 hMK
 go_wp2_with fail
 go_at_call 16
 refine hgv.mono ?_
 rintro e w3 ⟨g, c, rfl, hc3, F2, hs2, hk2, hg1, hg2, hg3, hgc⟩
 have hql : w.heap.size < w1.heap.size := HQ1.out.lt
 have hqF1 : w.heap.size ∉ F1 := fun hm => by have := HF1.out _ hm; omega
 have HQ3 := hide (HQ1.out.chg hc3 hqF1)
 have HF2 := hide (show ∀ k ∈ F2, w.heap.size + 1 ≤ k from fun k hk => by
  rcases hs2 k hk with h | h
  · exact HF1.out k h
  · omega)
 have HC3 : Hid (Chg w w3 []) := hide (HC1.out.trans hc3 (fun k hk => .inr (by have := HF1.out k hk; omega)))
 have HKR := hide hk2
 have hwk := work_calls b.a w3
 clear hgv hc3 hs2 hk2 hg1 hg2 hg3 hgc hql hqF1
 go_wp2_with fail
 go_at_call 19
 refine hwk.mono ?_
 rintro e w4 ⟨rfl, hc4⟩
 have hcr := cxK_calls HMK.out.run w4 (HKR.out.chg0 hc4) (vs := [.agg #[.iface 46 (.pointer (some ⟨b.a, 0, none⟩))], .int .i64 0, .int .i64 (n : Int)]) rfl
 have HC4 := hide (HC3.out.trans hc4 (by simp))
 have HQ4 := hide (HQ3.out.chg hc4 (by simp))
 have HS4 := hide hc4.size
 clear hwk hc4
 go_wp2_with fail
 go_at_call 18
 refine hcr.mono ?_
 rintro e w5 ⟨he, hc5, F3, hs3, hk3⟩
 have he : e = .returned (.int .i64 (i.out : Int)) := he
 subst he
 have HF3 := hide (show ∀ k ∈ F3, w.heap.size + 1 ≤ k from fun k hk => by
  rcases hs3 k hk with h | h
  · exact HF2.out k h
  · have := HQ4.out.lt; omega)
 have HC5 := hide (HC4.out.trans hc5 (fun k hk => .inr (by have := HF2.out k hk; omega)))
 have HQ5 := hide (HQ4.out.chg hc5 (fun hm => by have := HF2.out _ hm; omega))
 have han := answer_calls (hk3.chg0 ((Chg.refl w5 []).alloc (.cells #[.int .i64 (i.out : Int)] 3))) [i.out] ⟨w5.heap.size, 0, none⟩ 1 (Nat.succ_pos _) (fun j u hj => by
  rw [add_plain, Nat.zero_add]
  exact (Blk.new w5 3 [.int .i64 (i.out : Int)]).cell' hj) (Nat.le_of_ble_eq_true HMK.out.ro)
 clear hcr hc5 hs3 hk3
 go_wp2_with fail
 go_at_call 17
 refine han.mono ?_
 rintro e w7 ⟨rfl, hc7, F5, hs5, hk5⟩
 have HC7 : Hid (Chg w w7 []) := hide ((HC5.out.alloc _).trans hc7 (fun k hk => .inr (by have := HF3.out k hk; omega)))
 have hq5n : w.heap.size ∉ F3 := fun hm => by have := HF3.out _ hm; omega
 have HQ7 := hide ((HQ5.out.alloc (.cells #[.int .i64 (i.out : Int)] 3)).chg hc7 hq5n)
 have HF5 := hide (show ∀ k ∈ F5, w.heap.size + 1 ≤ k from fun k hk => by
  rcases hs5 k hk with h | h
  · exact HF3.out k h
  · have := HQ5.out.lt; rw [size_alloc] at h; omega)
 have hfi := mfinish_calls hk5 HMK.out.ok (Nat.le_of_ble_eq_true HMK.out.ru) HMK.out.fin
 rw [HMK.out.dat, HMK.out.secs, HMK.out.ins, HMK.out.outz] at hfi
 clear hc7 hs5 hk5 han hq5n
 go_wp2_with fail
 go_at_call 20
 refine hfi.mono ?_
 rintro e w6 ⟨v, rfl, hc6, him⟩
 obtain ⟨vc, vd, vs, vi, vo, rfl, h1, h2, h3, h4, h5⟩ := id him
 obtain ⟨a1, c1, rfl, _⟩ := id h1
 obtain ⟨a2, c2, rfl, _⟩ := id h2
 obtain ⟨a3, c3, rfl, _⟩ := id h3
 obtain ⟨a4, c4, rfl, _⟩ := id h4
 obtain ⟨a5, c5, rfl, _⟩ := id h5
 generalize (u32s ((wordsOf i.code i.nc).map fun w : Nat => (w : Int))).length = n1 at *
 generalize (i32s i.data).length = n2 at *
 generalize (bools i.sec).length = n3 at *
 generalize (ints (List.range n)).length = n4 at *
 generalize (ints [i.out]).length = n5 at *
 have hq6n : w.heap.size ∉ F5 := fun hm => by have := HF5.out _ hm; omega
 have hb6 := HQ7.out.chg hc6 hq6n
 have v0 := hb6.cell' (i := 0) rfl
 have v1 := hb6.cell' (i := 1) rfl
 have v2 := hb6.cell' (i := 2) rfl
 have v3 := hb6.cell' (i := 3) rfl
 have v4 := hb6.cell' (i := 4) rfl
 have k0 := hb6.frozen 0
 have k1 := hb6.frozen 1
 have k2 := hb6.frozen 2
 have k3 := hb6.frozen 3
 have k4 := hb6.frozen 4
 have hbl := hb6.lt
 have HB6 := hide hb6
 have HIM := hide him
 have HC6 : Hid (Chg w w6 []) := hide (HC7.out.trans hc6 (fun k hk => .inr (by have := HF5.out k hk; omega)))
 clear hfi hc6 him h1 h2 h3 h4 h5 hq6n hb6
 go_wp2
 have hfb := (((((HB6.out.set_ 0 (.slice a1 n1 c1)).set_ 1 (.slice a2 n2 c2)).set_ 2 (.slice a3 n3 c3)).set_ 3 (.slice a4 n4 c4)).set_ 4 (.slice a5 n5 c5))
 have hcf : Chg w6 (((((w6.setCell ⟨w.heap.size, 0, none⟩ (.slice a1 n1 c1)).setCell ⟨w.heap.size, 1, none⟩ (.slice a2 n2 c2)).setCell ⟨w.heap.size, 2, none⟩ (.slice a3 n3 c3)).setCell ⟨w.heap.size, 3, none⟩ (.slice a4 n4 c4)).setCell ⟨w.heap.size, 4, none⟩ (.slice a5 n5 c5)) [w.heap.size] := ((((((Chg.refl w6 [w.heap.size]).setCell _ _ (.inl (List.mem_singleton.2 rfl))).setCell _ _ (.inl (List.mem_singleton.2 rfl))).setCell _ _ (.inl (List.mem_singleton.2 rfl))).setCell _ _ (.inl (List.mem_singleton.2 rfl))).setCell _ _ (.inl (List.mem_singleton.2 rfl)))
 refine bodyPost_ret (v := .tuple #[.agg #[.slice a1 n1 c1, .slice a2 n2 c2, .slice a3 n3 c3, .slice a4 n4 c4, .slice a5 n5 c5], .int .i64 0]) ?_ rfl ⟨_, rfl, HC6.out.trans hcf (fun k hk => .inr (by simp at hk; omega)), HIM.out.far HB6.out hcf⟩
 exact results_ct (c := 2) (u := 3) (T := 29) rfl _ _ (((((w6.setCell ⟨w.heap.size, 0, none⟩ (.slice a1 n1 c1)).setCell ⟨w.heap.size, 1, none⟩ (.slice a2 n2 c2)).setCell ⟨w.heap.size, 2, none⟩ (.slice a3 n3 c3)).setCell ⟨w.heap.size, 3, none⟩ (.slice a4 n4 c4)).setCell ⟨w.heap.size, 4, none⟩ (.slice a5 n5 c5)) rfl (run_loadVar_row _ w.heap.size 29 29 #[.slice a1 n1 c1, .slice a2 n2 c2, .slice a3 n3 c3, .slice a4 n4 c4, .slice a5 n5 c5] (0, 0) _ hfb Tryz.underlying29 rfl (by kernel_rfl))
set_option maxRecDepth 100000 in
theorem kcrc_image_no (w : World) (n : Int) (h : n < 1 ∨ 64 < n) :
 Calls Tryz.prog 6 #[.int .i64 n] w fun e w' => e = .returned (.tuple #[.agg #[.slice none 0 0, .slice none 0 0, .slice none 0 0, .slice none 0 0, .slice none 0 0], .int .i64 2]) ∧ Chg w w' [] := by
 have hq := Blk.new w 29 nil5
 by_cases h0 : n < 1
 · have d1 : decide (n < 1) = true := decide_eq_true h0
   clear h
   go_enter Tryz.func6, Tryz.ntmps6
   go_wp2
   exact bodyPost_ret (v := .tuple #[.agg #[.slice none 0 0, .slice none 0 0, .slice none 0 0, .slice none 0 0, .slice none 0 0], .int .i64 2]) (results_ct (c := 2) (u := 3) (T := 29) rfl _ _ _ rfl (run_loadVar_row _ w.heap.size 29 29 #[.slice none 0 0, .slice none 0 0, .slice none 0 0, .slice none 0 0, .slice none 0 0] (0, 0) _ hq Tryz.underlying29 rfl (by kernel_rfl))) rfl ⟨rfl, (Chg.refl w []).alloc _⟩
 · have h3 : 64 < n := h.resolve_left h0
   have d1 : decide (n < 1) = false := decide_eq_false h0
   have d2 : decide (64 < n) = true := decide_eq_true h3
   clear h
   go_enter Tryz.func6, Tryz.ntmps6
   go_wp2
   exact bodyPost_ret (v := .tuple #[.agg #[.slice none 0 0, .slice none 0 0, .slice none 0 0, .slice none 0 0, .slice none 0 0], .int .i64 2]) (results_ct (c := 2) (u := 3) (T := 29) rfl _ _ _ rfl (run_loadVar_row _ w.heap.size 29 29 #[.slice none 0 0, .slice none 0 0, .slice none 0 0, .slice none 0 0, .slice none 0 0] (0, 0) _ hq Tryz.underlying29 rfl (by kernel_rfl))) rfl ⟨rfl, (Chg.refl w []).alloc _⟩
end Go.Proofs.YthnhilghjadigaaGreatDoor

/- The reference's xor, and a sum's step bit by bit. -/
namespace Go.Proofs.YthnhilghjadigaaGreatDoor
open Go.RowKit Go.Deep Go.Proofs.YthnhilghjadigaaGreatDoor.Ab
set_option linter.unusedVariables false
theorem bne_cast (a b : Nat) : ((a : Int) != (b : Int)) = !(a == b) := by
 cases h : a == b with
 | true =>
  have e : a = b := by simpa using h
  subst e
  simp
 | false =>
  have e : a ≠ b := by simpa using h
  have e2 : (a : Int) ≠ b := by omega
  simpa using e2
theorem pow_65536 {i : Nat} (h : i < 16) : 2 ^ i < 65536 := by
 have := Nat.pow_le_pow_right (n := 2) (by omega) (show i ≤ 15 by omega)
 omega
theorem wrapN (n : Nat) (h : n ≤ 100000) : IntKind.i64.wrap (n : Int) = (n : Int) := by rw [IntKind.wrap_i64]; omega
set_option maxRecDepth 100000 in
set_option maxHeartbeats 1000000 in
theorem rxor_calls (a b : Nat) (ha : a < 65536) (hb : b < 65536) (w : World) :
 Calls Tryz.prog 61 #[.int .i64 a, .int .i64 b] w fun e w' => e = .returned (.int .i64 ((a ^^^ b : Nat) : Int)) ∧ Chg w w' [] := by
 have HC := hide (Chg.refl w [])
 go_enter Tryz.func61, Tryz.ntmps61
 go_wp2_with fail
 go_loopw [5, 6] (fun o m wr => ∃ i : Nat, i ≤ 16 ∧ o = .int .i64 (((a ^^^ b) % 2 ^ i : Nat) : Int) ∧ m = .int .i64 ((2 ^ i : Nat) : Int) ∧ Hid (Chg w wr [])) (fun o m _ => 65537 - (intOf m).toNat)
 case atStart => exact ⟨0, by omega, by simp [Nat.mod_one], rfl, HC⟩
 case round =>
  clear HC
  obtain ⟨i, hi, rfl, rfl, HC⟩ := hrel
  by_cases hlt : i < 16
  · have hp := pow_65536 hlt
    have hp0 : 0 < 2 ^ i := Nat.pow_pos (by omega)
    have hm := xor_more a b i
    have hs : 2 ^ (i + 1) = 2 * 2 ^ i := by rw [Nat.pow_succ, Nat.mul_comm]
    have hl := Nat.mod_lt (a ^^^ b) hp0
    have hi1 : i + 1 ≤ 16 := by omega
    rw [hs] at hm
    have REL := hide (show ∃ j : Nat, j ≤ 16 ∧ (a ^^^ b) % (2 * 2 ^ i) = (a ^^^ b) % 2 ^ j ∧ 2 * 2 ^ i = 2 ^ j from ⟨i + 1, hi1, by rw [hs], hs.symm⟩)
    clear hs hi hi1 hlt
    generalize 2 ^ i = p at *
    have k0 : decide ((p : Int) < 65536) = true := by simp; omega
    have da : (a : Int).tdiv p = ((a / p : Nat) : Int) := by rw [Int.ofNat_tdiv]
    have db : (b : Int).tdiv p = ((b / p : Nat) : Int) := by rw [Int.ofNat_tdiv]
    have p0 : ((p : Int) == 0) = false := by simp; omega
    have p1 : ¬ (p : Int) = 0 := by omega
    have la : a / p ≤ a := Nat.div_le_self _ _
    have lb : b / p ≤ b := Nat.div_le_self _ _
    have wa := wrapN (a / p) (by omega)
    have wb := wrapN (b / p) (by omega)
    have ma : ((a / p : Nat) : Int).tmod 2 = ((a / p % 2 : Nat) : Int) := by rw [Int.ofNat_tmod]; rfl
    have mb : ((b / p : Nat) : Int).tmod 2 = ((b / p % 2 : Nat) : Int) := by rw [Int.ofNat_tmod]; rfl
    have hne : (((a / p % 2 : Nat) : Int) != ((b / p % 2 : Nat) : Int)) = !(a / p % 2 == b / p % 2) := bne_cast _ _
    have FIN : ∀ {o' : Int}, o' = (((a ^^^ b) % (2 * p) : Nat) : Int) → ∀ w1, Hid (Chg w w1 []) → ∃ i, i ≤ 16 ∧ Value.int IntKind.i64 o' = Value.int IntKind.i64 (((a ^^^ b) % 2 ^ i : Nat) : Int) ∧ Value.int IntKind.i64 (2 * (p : Int)) = Value.int IntKind.i64 ((2 ^ i : Nat) : Int) ∧ Hid (Chg w w1 []) := fun {o'} ho w1 hw => by
     obtain ⟨j, h1, h2, h3⟩ := REL.out
     exact ⟨j, h1, by rw [ho, h2], by rw [← h3]; rfl, hw⟩
    clear REL
    cases he : a / p % 2 == b / p % 2 with
    | true =>
     rw [he] at hne
     rw [if_pos (by simpa using he)] at hm
     have hm' : (((a ^^^ b) % (2 * p) : Nat) : Int) = (((a ^^^ b) % p : Nat) : Int) := by rw [hm]; rfl
     have F := hide (FIN hm'.symm)
     clear FIN hm hm' he la lb hl hp0
     generalize ((a / p % 2 : Nat) : Int) = A2 at *
     generalize ((b / p % 2 : Nat) : Int) = B2 at *
     generalize ((a / p : Nat) : Int) = A at *
     generalize ((b / p : Nat) : Int) = B at *
     generalize (((a ^^^ b) % p : Nat) : Int) = o at *
     go_wp2_with fail
     go_quiet (fail)
     go_wp2_with fail
     go_roundw
     case rel => exact F.out _ (hide (HC.out.drewN _))
     case measure => simp [intOf]; omega
    | false =>
     rw [he] at hne
     rw [if_neg (by simpa using he)] at hm
     have hm' : (((a ^^^ b) % (2 * p) : Nat) : Int) = (((a ^^^ b) % p : Nat) : Int) + (p : Int) := by rw [hm]; rfl
     have hol : (a ^^^ b) % p < 65536 := by omega
     have F := hide (FIN hm'.symm)
     clear FIN hm hm' he la lb hl hp0
     generalize ((a / p % 2 : Nat) : Int) = A2 at *
     generalize ((b / p % 2 : Nat) : Int) = B2 at *
     generalize ((a / p : Nat) : Int) = A at *
     generalize ((b / p : Nat) : Int) = B at *
     generalize (a ^^^ b) % p = o at *
     go_wp2_with fail
     go_quiet (fail)
     go_wp2_with fail
     go_roundw
     case rel =>
      exact F.out _ (hide (HC.out.drewN _))
     case measure => simp [intOf]; omega
  · obtain rfl : i = 16 := by omega
    have hx : (a ^^^ b) % 2 ^ 16 = a ^^^ b := Nat.mod_eq_of_lt (Nat.xor_lt_two_pow (by omega) (by omega))
    rw [hx, show ((2 ^ 16 : Nat) : Int) = 65536 from rfl]
    generalize hO : (((a ^^^ b) : Nat) : Int) = o at *
    have O := hide hO
    clear hO
    go_wp2_with fail
    go_ret
    exact ⟨O.out.symm ▸ rfl, HC.out⟩
set_option maxRecDepth 100000 in
set_option maxHeartbeats 1000000 in
theorem rstep_body (c : Nat) (C : Int) (b : Nat) (hc : c < 65536) (hC : -2147483648 ≤ C ∧ C ≤ 2147483647) (he : C % 65536 = c) (hb : b < 256) (w : World) :
 Calls Tryz.prog 32 #[.int .i32 C, .int .u8 b] w fun e w' => e = .returned (.int .i32 (byteN8 (c ^^^ (256 * b)) : Nat)) ∧ Chg w w' [] := by
 have hx0 : c ^^^ (256 * b) < 65536 := Nat.xor_lt_two_pow (n := 16) hc (by omega)
 have HM := hide (mod_calls C 65536 w (by omega) (by omega))
 rw [he] at HM
 have e1 : wrap64 (256 * (b : Int)) = ((256 * b : Nat) : Int) := by unfold wrap64; omega
 have e2 : IntKind.i64.wrap (b : Int) = b := wrapN b (by omega)
 have e3 : IntKind.i64.wrap C = C := by rw [IntKind.wrap_i64]; omega
 have HX := hide (rxor_calls c (256 * b) hc (by omega) w)
 generalize c ^^^ (256 * b) = x0 at *
 clear he
 go_enter Tryz.func32, Tryz.ntmps32
 go_wp2_with fail
 refine HM.out.mono ?_
 rintro e w1 ⟨rfl, rfl⟩
 go_wp2_with fail
 refine HX.out.mono ?_
 rintro e w1 ⟨rfl, hc1⟩
 have HC := hide hc1
 clear hc1 HX HM
 clear e1 e2 e3 hc hb hC
 go_wp2_with fail
 go_loopw [5, 6] (fun x m wr => ∃ i : Nat, i ≤ 8 ∧ x = .int .i64 ((itN i x0 : Nat) : Int) ∧ m = .int .i64 ((i : Nat) : Int) ∧ Hid (Chg w wr [])) (fun x m _ => 8 - (intOf m).toNat)
 case atStart => exact ⟨0, by omega, rfl, rfl, HC⟩
 case round =>
  clear HC
  obtain ⟨i, hi, rfl, rfl, HC⟩ := hrel
  by_cases hlt : i < 8
  · have hx := itN_lt hx0 i
    have hn : itN (i + 1) x0 = bitN (itN i x0) := rfl
    have k0 : decide ((i : Int) < 8) = true := by simp; omega
    have ei : wrap64 ((i : Int) + 1) = ((i + 1 : Nat) : Int) := by unfold wrap64; omega
    by_cases hg : 32768 ≤ itN i x0
    · have hb1 : bitN (itN i x0) = (2 * itN i x0 % 65536) ^^^ 4129 := by unfold bitN; rw [if_pos hg]
      rw [hb1] at hn
      have HX := hide (rxor_calls (2 * itN i x0 % 65536) 4129 (Nat.mod_lt _ (by omega)) (by omega) wr)
      have kg : decide (((itN i x0 : Nat) : Int) ≥ 32768) = true := by simp; omega
      have m1 : (2 * ((itN i x0 : Nat) : Int)).tmod 65536 = ((2 * itN i x0 % 65536 : Nat) : Int) := by rw [Int.tmod_eq_emod_of_nonneg (by omega)]; omega
      have m2 : 2 * ((itN i x0 : Nat) : Int) % 65536 = ((2 * itN i x0 % 65536 : Nat) : Int) := by omega
      have w2 : wrap64 (2 * ((itN i x0 : Nat) : Int)) = 2 * ((itN i x0 : Nat) : Int) := by unfold wrap64; omega
      have N := hide hn
      clear hb1 hn
      generalize ((2 * itN i x0 % 65536 : Nat) : Int) = M at *
      generalize itN i x0 = x at *
      go_wp2_with fail
      refine HX.out.mono ?_
      rintro e w2 ⟨rfl, hc2⟩
      have HC2 := hide (HC.out.trans hc2 (D := []) (by simp))
      rw [← N.out]
      clear hc2 HX N
      go_wp2_with fail
      go_roundw
      case rel => exact ⟨i + 1, by omega, rfl, by go_num, HC2⟩
      case measure => simp [intOf]; omega
    · have hb1 : bitN (itN i x0) = 2 * itN i x0 % 65536 := by unfold bitN; rw [if_neg hg]
      rw [hb1] at hn
      have kg : decide (((itN i x0 : Nat) : Int) ≥ 32768) = false := by simp; omega
      have m1 : (2 * ((itN i x0 : Nat) : Int)).tmod 65536 = ((itN (i + 1) x0 : Nat) : Int) := by rw [Int.tmod_eq_emod_of_nonneg (by omega), hn]; omega
      have m2 : 2 * ((itN i x0 : Nat) : Int) % 65536 = ((itN (i + 1) x0 : Nat) : Int) := by rw [hn]; omega
      have w2 : wrap64 (2 * ((itN i x0 : Nat) : Int)) = 2 * ((itN i x0 : Nat) : Int) := by unfold wrap64; omega
      clear hb1 hn
      generalize hY : ((itN (i + 1) x0 : Nat) : Int) = y at *
      have Y := hide hY
      clear hY
      generalize itN i x0 = x at *
      go_wp2_with fail
      go_roundw
      case rel => exact ⟨i + 1, by omega, by rw [← Y.out], by go_num, HC⟩
      case measure => simp [intOf]; omega
  · obtain rfl : i = 8 := by omega
    rw [itN_8]
    have hl : byteN8 x0 < 65536 := byteN8_lt _
    have e4 : IntKind.i32.wrap ((byteN8 x0 : Nat) : Int) = ((byteN8 x0 : Nat) : Int) := by rw [IntKind.wrap_i32]; omega
    generalize hO : ((byteN8 x0 : Nat) : Int) = o at *
    have O := hide hO
    clear hO
    go_wp2_with fail
    go_ret
    exact ⟨O.out.symm ▸ rfl, HC.out⟩
theorem rstep_calls (c b : Nat) (hc : c < 65536) (hb : b < 256) (w : World) :
 Calls Tryz.prog 32 #[.int .i32 c, .int .u8 b] w fun e w' => e = .returned (.int .i32 (byteN8 (c ^^^ (256 * b)) : Nat)) ∧ Chg w w' [] :=
 rstep_body c c b hc (by omega) (by omega) hb w
theorem sumN_lt {c : Nat} (h : c < 65536) (xs : List Nat) : sumN c xs < 65536 := by
 unfold sumN
 induction xs generalizing c with
 | nil => exact h
 | cons x l ih => exact ih (byteN8_lt _)
theorem sumN_take (c : Nat) (xs : List Nat) (k x : Nat) (h : xs[k]? = some x) : sumN c (xs.take (k + 1)) = byteN8 (sumN c (xs.take k) ^^^ (256 * x)) := by
 unfold sumN
 rw [List.take_add_one, h, List.foldl_append]
 show List.foldl _ _ [x] = _
 rw [List.foldl_cons, List.foldl_nil]
def u8c (xs : List Nat) : List Value := xs.map fun x : Nat => .int .u8 (x : Int)
theorem u8c_at {l : List Nat} {j a : Nat} (h : l[j]? = some a) : (u8c l)[j]? = some (.int .u8 (a : Int)) := by simp [u8c, h]
theorem u8c_length (l : List Nat) : (u8c l).length = l.length := List.length_map ..
set_option maxRecDepth 100000 in
set_option maxHeartbeats 1000000 in
theorem rof_calls {w : World} {v : Value} {l : List Nat} (h : Sl w v (u8c l)) (hb : ∀ x ∈ l, x < 256) (hl : l.length ≤ 100000) : Calls Tryz.prog 11 #[v] w fun e w' => e = .returned (.int .i32 (sumN 65535 l : Nat)) ∧ Chg w w' [] := by
 obtain ⟨A, c, rfl, hx⟩ := sl_open h
 rw [u8c_length]
 have HX := hide hx
 have HB := hide hb
 clear h hx hb
 go_enter Tryz.func11, Tryz.ntmps11
 go_wp2_with fail
 go_loopw [3, 4] (fun s i wr => ∃ j : Nat, j ≤ l.length ∧ s = .int .i32 ((sumN 65535 (l.take j) : Nat) : Int) ∧ i = .int .i64 j ∧ Hid (Chg w wr [])) (fun _ i _ => l.length - (intOf i).toNat)
 case atStart => exact ⟨0, Nat.zero_le _, rfl, rfl, hide (Chg.refl w [])⟩
 case round =>
  obtain ⟨j, hj, rfl, rfl, HC⟩ := hrel
  by_cases hlt : j < l.length
  · obtain ⟨x, hjx⟩ : ∃ x, l[j]? = some x := ⟨l[j], by simp [hlt]⟩
    obtain ⟨b, o, rfl, hc, hbb⟩ := HX.out j _ (u8c_at hjx)
    have c1 := HC.out.cell hc (by simp)
    have hs := rstep_calls (sumN 65535 (l.take j)) x (sumN_lt (by decide) _) (HB.out x (List.mem_of_getElem? hjx)) wr
    rw [← sumN_take _ _ _ _ hjx] at hs
    clear hc hjx
    generalize ((sumN 65535 (l.take j) : Nat) : Int) = S at *
    go_wp2_with fail
    go_at_call 32
    refine hs.mono ?_
    rintro e w2 ⟨rfl, hc2⟩
    have HC2 := hide (HC.out.trans hc2 (by simp))
    clear hs hc2
    go_wp2
    go_roundw
    case rel => exact ⟨j + 1, by omega, rfl, by go_num, HC2⟩
    case measure => simp [intOf]; omega
  · have hjl : j = l.length := by omega
    subst hjl
    rw [List.take_length]
    go_wp2
    go_ret
    exact ⟨rfl, HC.out⟩
end Go.Proofs.YthnhilghjadigaaGreatDoor

/- The document's words of bytes; two empty images are one. -/
namespace Go.Proofs.YthnhilghjadigaaGreatDoor
open Go Go.RowKit Go.Deep Go.Maps Go.Proofs.YthnhilghjadigaaGreatDoor.Ab
set_option linter.unusedVariables false
attribute [local go_sem] Oper.semAt_some
set_option maxRecDepth 100000 in
set_option maxHeartbeats 1000000 in
theorem rwords30_calls {w : World} (hq : 8 ≤ w.heap.size) {v : Value} {l : List Nat} (h : Sl w v (u8c l)) (hb : ∀ x ∈ l, x < 256) (hl : l.length ≤ 100000) : Calls Tryz.prog 10 #[v] w fun e w' => ∃ u, e = .returned u ∧ Chg w w' [] ∧ Sl w' u (i32s (l.map fun n : Nat => (n : Int))) := by
 obtain ⟨i0, hi0, hz0, hz1, hz2⟩ := info_parts info_i32
 obtain ⟨A, c, rfl, hx⟩ := sl_open h
 rw [u8c_length]
 have HX := hide hx
 have HB := hide hb
 clear h hx hb
 go_enter Tryz.func10, Tryz.ntmps10
 go_wp2_with fail
 go_loopw [3, 4] (fun v i wr => ∃ j : Nat, j ≤ l.length ∧ i = .int .i64 j ∧ Hid (Chg w wr []) ∧ Hid (wr.ownsRow w.heap.size 21 1 v j (i32s ((l.map fun n : Nat => (n : Int)).take j)))) (fun _ i _ => l.length - (intOf i).toNat)
 case atStart => exact ⟨0, Nat.zero_le _, rfl, hide (Chg.refl _ _), hide (World.ownsRow_nil _ _ _ _)⟩
 case round =>
  obtain ⟨j, hj, rfl, HC, HO⟩ := hrel
  by_cases hlt : j < l.length
  · obtain ⟨x, hjx⟩ : ∃ x, l[j]? = some x := ⟨l[j], by simp [hlt]⟩
    obtain ⟨b, o, rfl, hcx, hbb⟩ := HX.out j _ (u8c_at hjx)
    have c1 := HC.out.cell hcx (by simp)
    have hx256 := HB.out x (List.mem_of_getElem? hjx)
    have hwr : IntKind.i32.wrap (x : Int) = (x : Int) := by rw [IntKind.wrap_i32]; omega
    have HTK := hide (show i32s ((l.map fun n : Nat => (n : Int)).take (j + 1)) = i32s ((l.map fun n : Nat => (n : Int)).take j) ++ [.int .i32 (x : Int)] from by
     rw [List.take_add_one, List.getElem?_map, hjx]
     simp [i32s])
    obtain ⟨V, vc, rfl⟩ := own_slice HO.out
    clear hcx hjx
    go_wp2_with (at_builtin; refine wpList_append_own _ rfl _ _ 25 rfl w.heap.size 21 i0 (.int .i32 0) 1 4 Tryz.underlying25 hi0 hz0 hz1 hz2 rfl (by decide) _ j _ rfl (HO.out.alloc _) ⟨wr.heap.size, 0, none⟩ 1 1 [.int .i32 (x : Int)] rfl rfl ?c1 ?c2 ?c3 ?c4 ?c5 ?_)
    case c1 =>
     intro j u hj
     match j, hj with
     | 0, hj => simp at hj; subst hj; simp [Addr.add]
    case c2 => intro u hu; simp at hu; subst hu; rfl
    case c3 => unfold maxLen; omega
    case c4 => omega
    case c5 => have := HC.out.size; simp; omega
    intro v' w5 hown' hgrow _
    have HG : Hid (Chg w w5 []) := hide ((HC.out.alloc _).trans (D' := (Value.slice V j vc).ownBlock.toList) (Chg.of_grown hgrow (fun k hk => .inl (by simp [hk]))) (fun k hk => .inr (HO.out.lt k (by simpa using hk)).1))
    have HO5 := hide hown'
    obtain ⟨A6, c6, hv'⟩ := own_slice hown'
    clear hown' hgrow
    go_wp2
    go_roundw
    case rel => exact ⟨j + 1, by omega, by go_num, HG, hide (by rw [HTK.out]; exact HO5.out)⟩
    case measure => simp [intOf]; omega
  · have hjl : j = l.length := by omega
    subst hjl
    go_wp2
    go_ret
    have ho := HO.out
    rw [List.take_of_length_le (by simp)] at ho
    exact ⟨_, rfl, HC.out, Sl.own ho⟩
end Go.Proofs.YthnhilghjadigaaGreatDoor

/- The document's comparison of two empty images. -/
namespace Go.Proofs.YthnhilghjadigaaGreatDoor
open Go Go.RowKit Go.Deep Go.Maps Go.Proofs.YthnhilghjadigaaGreatDoor.Ab
set_option linter.unusedVariables false
attribute [local go_sem] Oper.semAt_some
set_option maxRecDepth 100000 in
theorem nilWords (w : World) : Calls Tryz.prog 22 #[.slice none 0 0, .slice none 0 0] w fun e w' => e = .returned (.bool true) ∧ Chg w w' [] := by
 go_enter Tryz.func22, Tryz.ntmps22
 go_wp2_with fail
 go_loopw [5] (fun i wr => i = .int .i64 0 ∧ Hid (Chg w wr [])) (fun _ _ => 0)
 case atStart => exact ⟨rfl, hide (Chg.refl w [])⟩
 case round =>
  obtain ⟨rfl, HC⟩ := hrel
  go_wp2
  go_ret
  exact ⟨rfl, HC.out⟩
set_option maxRecDepth 100000 in
theorem nilI32 (w : World) : Calls Tryz.prog 23 #[.slice none 0 0, .slice none 0 0] w fun e w' => e = .returned (.bool true) ∧ Chg w w' [] := by
 go_enter Tryz.func23, Tryz.ntmps23
 go_wp2_with fail
 go_loopw [5] (fun i wr => i = .int .i64 0 ∧ Hid (Chg w wr [])) (fun _ _ => 0)
 case atStart => exact ⟨rfl, hide (Chg.refl w [])⟩
 case round =>
  obtain ⟨rfl, HC⟩ := hrel
  go_wp2
  go_ret
  exact ⟨rfl, HC.out⟩
set_option maxRecDepth 100000 in
theorem nilBools (w : World) : Calls Tryz.prog 24 #[.slice none 0 0, .slice none 0 0] w fun e w' => e = .returned (.bool true) ∧ Chg w w' [] := by
 go_enter Tryz.func24, Tryz.ntmps24
 go_wp2_with fail
 go_loopw [5] (fun i wr => i = .int .i64 0 ∧ Hid (Chg w wr [])) (fun _ _ => 0)
 case atStart => exact ⟨rfl, hide (Chg.refl w [])⟩
 case round =>
  obtain ⟨rfl, HC⟩ := hrel
  go_wp2
  go_ret
  exact ⟨rfl, HC.out⟩
set_option maxRecDepth 100000 in
theorem nilInts (w : World) : Calls Tryz.prog 25 #[.slice none 0 0, .slice none 0 0] w fun e w' => e = .returned (.bool true) ∧ Chg w w' [] := by
 go_enter Tryz.func25, Tryz.ntmps25
 go_wp2_with fail
 go_loopw [5] (fun i wr => i = .int .i64 0 ∧ Hid (Chg w wr [])) (fun _ _ => 0)
 case atStart => exact ⟨rfl, hide (Chg.refl w [])⟩
 case round =>
  obtain ⟨rfl, HC⟩ := hrel
  go_wp2
  go_ret
  exact ⟨rfl, HC.out⟩
set_option maxRecDepth 100000 in
set_option maxHeartbeats 1000000 in
theorem refsame22_nil (w : World) : Calls Tryz.prog 8 #[.agg #[.slice none 0 0, .slice none 0 0, .slice none 0 0, .slice none 0 0, .slice none 0 0], .agg #[.slice none 0 0, .slice none 0 0, .slice none 0 0, .slice none 0 0, .slice none 0 0]] w fun e w' => e = .returned (.bool true) ∧ Chg w w' [] := by
 have hz1 : (w.alloc (.cells #[.slice none 0 0, .slice none 0 0, .slice none 0 0, .slice none 0 0, .slice none 0 0] 29)).heap.size = w.heap.size + 1 := size_alloc _ _
 have hP := (Blk.new w 29 nil5).alloc (.cells #[.slice none 0 0, .slice none 0 0, .slice none 0 0, .slice none 0 0, .slice none 0 0] 29)
 have hQ := Blk.new (w.alloc (.cells #[.slice none 0 0, .slice none 0 0, .slice none 0 0, .slice none 0 0, .slice none 0 0] 29)) 29 nil5
 rw [hz1] at hQ
 have HP := hide hP
 have HQ := hide hQ
 have HC := hide (((Chg.refl w []).alloc (.cells #[.slice none 0 0, .slice none 0 0, .slice none 0 0, .slice none 0 0, .slice none 0 0] 29)).alloc (.cells #[.slice none 0 0, .slice none 0 0, .slice none 0 0, .slice none 0 0, .slice none 0 0] 29))
 clear hz1 hP hQ
 go_enter Tryz.func8, Tryz.ntmps8
 go_wp2_with fail
 go_at_call 22
 refine (nilWords _).mono ?_
 rintro e w1 ⟨rfl, hc⟩
 have HC := hide (HC.out.trans hc (by simp))
 have HP := hide (HP.out.chg hc (by simp))
 have HQ := hide (HQ.out.chg hc (by simp))
 clear hc
 have y0 := HP.out.cell' (i := 0) rfl
 have z0 := HQ.out.cell' (i := 0) rfl
 have y1 := HP.out.cell' (i := 1) rfl
 have z1 := HQ.out.cell' (i := 1) rfl
 have y2 := HP.out.cell' (i := 2) rfl
 have z2 := HQ.out.cell' (i := 2) rfl
 have y3 := HP.out.cell' (i := 3) rfl
 have z3 := HQ.out.cell' (i := 3) rfl
 have y4 := HP.out.cell' (i := 4) rfl
 have z4 := HQ.out.cell' (i := 4) rfl
 go_wp2_with fail
 go_at_call 23
 refine (nilI32 _).mono ?_
 rintro e w2 ⟨rfl, hc⟩
 have HC := hide (HC.out.trans hc (by simp))
 have HP := hide (HP.out.chg hc (by simp))
 have HQ := hide (HQ.out.chg hc (by simp))
 clear hc
 have y0 := HP.out.cell' (i := 0) rfl
 have z0 := HQ.out.cell' (i := 0) rfl
 have y1 := HP.out.cell' (i := 1) rfl
 have z1 := HQ.out.cell' (i := 1) rfl
 have y2 := HP.out.cell' (i := 2) rfl
 have z2 := HQ.out.cell' (i := 2) rfl
 have y3 := HP.out.cell' (i := 3) rfl
 have z3 := HQ.out.cell' (i := 3) rfl
 have y4 := HP.out.cell' (i := 4) rfl
 have z4 := HQ.out.cell' (i := 4) rfl
 go_wp2_with fail
 go_at_call 24
 refine (nilBools _).mono ?_
 rintro e w3 ⟨rfl, hc⟩
 have HC := hide (HC.out.trans hc (by simp))
 have HP := hide (HP.out.chg hc (by simp))
 have HQ := hide (HQ.out.chg hc (by simp))
 clear hc
 have y0 := HP.out.cell' (i := 0) rfl
 have z0 := HQ.out.cell' (i := 0) rfl
 have y1 := HP.out.cell' (i := 1) rfl
 have z1 := HQ.out.cell' (i := 1) rfl
 have y2 := HP.out.cell' (i := 2) rfl
 have z2 := HQ.out.cell' (i := 2) rfl
 have y3 := HP.out.cell' (i := 3) rfl
 have z3 := HQ.out.cell' (i := 3) rfl
 have y4 := HP.out.cell' (i := 4) rfl
 have z4 := HQ.out.cell' (i := 4) rfl
 go_wp2_with fail
 go_at_call 25
 refine (nilInts _).mono ?_
 rintro e w4 ⟨rfl, hc⟩
 have HC := hide (HC.out.trans hc (by simp))
 have HP := hide (HP.out.chg hc (by simp))
 have HQ := hide (HQ.out.chg hc (by simp))
 clear hc
 have y0 := HP.out.cell' (i := 0) rfl
 have z0 := HQ.out.cell' (i := 0) rfl
 have y1 := HP.out.cell' (i := 1) rfl
 have z1 := HQ.out.cell' (i := 1) rfl
 have y2 := HP.out.cell' (i := 2) rfl
 have z2 := HQ.out.cell' (i := 2) rfl
 have y3 := HP.out.cell' (i := 3) rfl
 have z3 := HQ.out.cell' (i := 3) rfl
 have y4 := HP.out.cell' (i := 4) rfl
 have z4 := HQ.out.cell' (i := 4) rfl
 go_wp2_with fail
 go_at_call 25
 refine (nilInts _).mono ?_
 rintro e w5 ⟨rfl, hc⟩
 have HC := hide (HC.out.trans hc (by simp))
 have HP := hide (HP.out.chg hc (by simp))
 have HQ := hide (HQ.out.chg hc (by simp))
 clear hc
 go_wp2
 go_ret
 exact ⟨rfl, HC.out⟩
end Go.Proofs.YthnhilghjadigaaGreatDoor
