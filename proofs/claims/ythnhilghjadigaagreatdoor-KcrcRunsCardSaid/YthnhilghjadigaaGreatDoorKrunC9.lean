/- kcrc's images, all of them. No program is in sight. -/
import Derived.Test.YthnhilghjadigaaGreatDoorKrunC1
import Derived.Test.YthnhilghjadigaaGreatDoorKrunC2
import Derived.Test.YthnhilghjadigaaGreatDoorKrunC3
import Derived.Test.YthnhilghjadigaaGreatDoorKrunC4
import Derived.Test.YthnhilghjadigaaGreatDoorKrunC5
import Derived.Test.YthnhilghjadigaaGreatDoorKrunC6
import Derived.Test.YthnhilghjadigaaGreatDoorKrunC7
import Derived.Test.YthnhilghjadigaaGreatDoorKrunC8
namespace Go.Proofs.YthnhilghjadigaaGreatDoor
open Go Go.RowKit Go.Proofs.YthnhilghjadigaaGreatDoor.Ab Go.Proofs.YthnhilghjadigaaGreatDoor.Xi
theorem okC (n : Nat) (h1 : 1 ≤ n) (h2 : n ≤ 64) : OkC n (imgC n) := by
 match n, h1, h2 with
 | 1, _, _ => exact okC1
 | 2, _, _ => exact okC2
 | 3, _, _ => exact okC3
 | 4, _, _ => exact okC4
 | 5, _, _ => exact okC5
 | 6, _, _ => exact okC6
 | 7, _, _ => exact okC7
 | 8, _, _ => exact okC8
 | 9, _, _ => exact okC9
 | 10, _, _ => exact okC10
 | 11, _, _ => exact okC11
 | 12, _, _ => exact okC12
 | 13, _, _ => exact okC13
 | 14, _, _ => exact okC14
 | 15, _, _ => exact okC15
 | 16, _, _ => exact okC16
 | 17, _, _ => exact okC17
 | 18, _, _ => exact okC18
 | 19, _, _ => exact okC19
 | 20, _, _ => exact okC20
 | 21, _, _ => exact okC21
 | 22, _, _ => exact okC22
 | 23, _, _ => exact okC23
 | 24, _, _ => exact okC24
 | 25, _, _ => exact okC25
 | 26, _, _ => exact okC26
 | 27, _, _ => exact okC27
 | 28, _, _ => exact okC28
 | 29, _, _ => exact okC29
 | 30, _, _ => exact okC30
 | 31, _, _ => exact okC31
 | 32, _, _ => exact okC32
 | 33, _, _ => exact okC33
 | 34, _, _ => exact okC34
 | 35, _, _ => exact okC35
 | 36, _, _ => exact okC36
 | 37, _, _ => exact okC37
 | 38, _, _ => exact okC38
 | 39, _, _ => exact okC39
 | 40, _, _ => exact okC40
 | 41, _, _ => exact okC41
 | 42, _, _ => exact okC42
 | 43, _, _ => exact okC43
 | 44, _, _ => exact okC44
 | 45, _, _ => exact okC45
 | 46, _, _ => exact okC46
 | 47, _, _ => exact okC47
 | 48, _, _ => exact okC48
 | 49, _, _ => exact okC49
 | 50, _, _ => exact okC50
 | 51, _, _ => exact okC51
 | 52, _, _ => exact okC52
 | 53, _, _ => exact okC53
 | 54, _, _ => exact okC54
 | 55, _, _ => exact okC55
 | 56, _, _ => exact okC56
 | 57, _, _ => exact okC57
 | 58, _, _ => exact okC58
 | 59, _, _ => exact okC59
 | 60, _, _ => exact okC60
 | 61, _, _ => exact okC61
 | 62, _, _ => exact okC62
 | 63, _, _ => exact okC63
 | 64, _, _ => exact okC64
 | n + 65, _, h => exact absurd h (by omega)
end Go.Proofs.YthnhilghjadigaaGreatDoor
