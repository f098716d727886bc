/- What the core comes to on kcrc's images (49 to 56 bytes). No program is in sight. -/
import Derived.Test.YthnhilghjadigaaGreatDoorKrunC
namespace Go.Proofs.YthnhilghjadigaaGreatDoor
open Go Go.RowKit Go.Proofs.YthnhilghjadigaaGreatDoor.Ab Go.Proofs.YthnhilghjadigaaGreatDoor.Xi
set_option linter.unusedVariables false
set_option maxRecDepth 100000
theorem okC49 : OkC 49 imgC49 where
 enc := by kernel_rfl
 chk := by kernel_rfl
 len := by kernel_rfl
 dlen := by kernel_rfl
 sml := by kernel_rfl
 aok := by kernel_rfl
 sump := by kernel_rfl
 both := fun b => by kernel_rfl
 wsm := fun b => by kernel_rfl
theorem okC50 : OkC 50 imgC50 where
 enc := by kernel_rfl
 chk := by kernel_rfl
 len := by kernel_rfl
 dlen := by kernel_rfl
 sml := by kernel_rfl
 aok := by kernel_rfl
 sump := by kernel_rfl
 both := fun b => by kernel_rfl
 wsm := fun b => by kernel_rfl
theorem okC51 : OkC 51 imgC51 where
 enc := by kernel_rfl
 chk := by kernel_rfl
 len := by kernel_rfl
 dlen := by kernel_rfl
 sml := by kernel_rfl
 aok := by kernel_rfl
 sump := by kernel_rfl
 both := fun b => by kernel_rfl
 wsm := fun b => by kernel_rfl
theorem okC52 : OkC 52 imgC52 where
 enc := by kernel_rfl
 chk := by kernel_rfl
 len := by kernel_rfl
 dlen := by kernel_rfl
 sml := by kernel_rfl
 aok := by kernel_rfl
 sump := by kernel_rfl
 both := fun b => by kernel_rfl
 wsm := fun b => by kernel_rfl
theorem okC53 : OkC 53 imgC53 where
 enc := by kernel_rfl
 chk := by kernel_rfl
 len := by kernel_rfl
 dlen := by kernel_rfl
 sml := by kernel_rfl
 aok := by kernel_rfl
 sump := by kernel_rfl
 both := fun b => by kernel_rfl
 wsm := fun b => by kernel_rfl
theorem okC54 : OkC 54 imgC54 where
 enc := by kernel_rfl
 chk := by kernel_rfl
 len := by kernel_rfl
 dlen := by kernel_rfl
 sml := by kernel_rfl
 aok := by kernel_rfl
 sump := by kernel_rfl
 both := fun b => by kernel_rfl
 wsm := fun b => by kernel_rfl
theorem okC55 : OkC 55 imgC55 where
 enc := by kernel_rfl
 chk := by kernel_rfl
 len := by kernel_rfl
 dlen := by kernel_rfl
 sml := by kernel_rfl
 aok := by kernel_rfl
 sump := by kernel_rfl
 both := fun b => by kernel_rfl
 wsm := fun b => by kernel_rfl
theorem okC56 : OkC 56 imgC56 where
 enc := by kernel_rfl
 chk := by kernel_rfl
 len := by kernel_rfl
 dlen := by kernel_rfl
 sml := by kernel_rfl
 aok := by kernel_rfl
 sump := by kernel_rfl
 both := fun b => by kernel_rfl
 wsm := fun b => by kernel_rfl
end Go.Proofs.YthnhilghjadigaaGreatDoor
