/- What the core comes to on kcrc's images (33 to 40 bytes). No program is in sight. -/
import Derived.Test.YthnhilghjadigaaGreatDoorKrunC
namespace Go.Proofs.YthnhilghjadigaaGreatDoor
open Go Go.RowKit Go.Proofs.YthnhilghjadigaaGreatDoor.Ab Go.Proofs.YthnhilghjadigaaGreatDoor.Xi
set_option linter.unusedVariables false
set_option maxRecDepth 100000
theorem okC33 : OkC 33 imgC33 where
 enc := by kernel_rfl
 chk := by kernel_rfl
 len := by kernel_rfl
 dlen := by kernel_rfl
 sml := by kernel_rfl
 aok := by kernel_rfl
 sump := by kernel_rfl
 both := fun b => by kernel_rfl
 wsm := fun b => by kernel_rfl
theorem okC34 : OkC 34 imgC34 where
 enc := by kernel_rfl
 chk := by kernel_rfl
 len := by kernel_rfl
 dlen := by kernel_rfl
 sml := by kernel_rfl
 aok := by kernel_rfl
 sump := by kernel_rfl
 both := fun b => by kernel_rfl
 wsm := fun b => by kernel_rfl
theorem okC35 : OkC 35 imgC35 where
 enc := by kernel_rfl
 chk := by kernel_rfl
 len := by kernel_rfl
 dlen := by kernel_rfl
 sml := by kernel_rfl
 aok := by kernel_rfl
 sump := by kernel_rfl
 both := fun b => by kernel_rfl
 wsm := fun b => by kernel_rfl
theorem okC36 : OkC 36 imgC36 where
 enc := by kernel_rfl
 chk := by kernel_rfl
 len := by kernel_rfl
 dlen := by kernel_rfl
 sml := by kernel_rfl
 aok := by kernel_rfl
 sump := by kernel_rfl
 both := fun b => by kernel_rfl
 wsm := fun b => by kernel_rfl
theorem okC37 : OkC 37 imgC37 where
 enc := by kernel_rfl
 chk := by kernel_rfl
 len := by kernel_rfl
 dlen := by kernel_rfl
 sml := by kernel_rfl
 aok := by kernel_rfl
 sump := by kernel_rfl
 both := fun b => by kernel_rfl
 wsm := fun b => by kernel_rfl
theorem okC38 : OkC 38 imgC38 where
 enc := by kernel_rfl
 chk := by kernel_rfl
 len := by kernel_rfl
 dlen := by kernel_rfl
 sml := by kernel_rfl
 aok := by kernel_rfl
 sump := by kernel_rfl
 both := fun b => by kernel_rfl
 wsm := fun b => by kernel_rfl
theorem okC39 : OkC 39 imgC39 where
 enc := by kernel_rfl
 chk := by kernel_rfl
 len := by kernel_rfl
 dlen := by kernel_rfl
 sml := by kernel_rfl
 aok := by kernel_rfl
 sump := by kernel_rfl
 both := fun b => by kernel_rfl
 wsm := fun b => by kernel_rfl
theorem okC40 : OkC 40 imgC40 where
 enc := by kernel_rfl
 chk := by kernel_rfl
 len := by kernel_rfl
 dlen := by kernel_rfl
 sml := by kernel_rfl
 aok := by kernel_rfl
 sump := by kernel_rfl
 both := fun b => by kernel_rfl
 wsm := fun b => by kernel_rfl
end Go.Proofs.YthnhilghjadigaaGreatDoor
