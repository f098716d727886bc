/- What the core comes to on kcrc's images (17 to 24 bytes). No program is in sight. -/
import Derived.Test.YthnhilghjadigaaGreatDoorKrunC
namespace Go.Proofs.YthnhilghjadigaaGreatDoor
open Go Go.RowKit Go.Proofs.YthnhilghjadigaaGreatDoor.Ab Go.Proofs.YthnhilghjadigaaGreatDoor.Xi
set_option linter.unusedVariables false
set_option maxRecDepth 100000
theorem okC17 : OkC 17 imgC17 where
 enc := by kernel_rfl
 chk := by kernel_rfl
 len := by kernel_rfl
 dlen := by kernel_rfl
 sml := by kernel_rfl
 aok := by kernel_rfl
 sump := by kernel_rfl
 both := fun b => by kernel_rfl
 wsm := fun b => by kernel_rfl
theorem okC18 : OkC 18 imgC18 where
 enc := by kernel_rfl
 chk := by kernel_rfl
 len := by kernel_rfl
 dlen := by kernel_rfl
 sml := by kernel_rfl
 aok := by kernel_rfl
 sump := by kernel_rfl
 both := fun b => by kernel_rfl
 wsm := fun b => by kernel_rfl
theorem okC19 : OkC 19 imgC19 where
 enc := by kernel_rfl
 chk := by kernel_rfl
 len := by kernel_rfl
 dlen := by kernel_rfl
 sml := by kernel_rfl
 aok := by kernel_rfl
 sump := by kernel_rfl
 both := fun b => by kernel_rfl
 wsm := fun b => by kernel_rfl
theorem okC20 : OkC 20 imgC20 where
 enc := by kernel_rfl
 chk := by kernel_rfl
 len := by kernel_rfl
 dlen := by kernel_rfl
 sml := by kernel_rfl
 aok := by kernel_rfl
 sump := by kernel_rfl
 both := fun b => by kernel_rfl
 wsm := fun b => by kernel_rfl
theorem okC21 : OkC 21 imgC21 where
 enc := by kernel_rfl
 chk := by kernel_rfl
 len := by kernel_rfl
 dlen := by kernel_rfl
 sml := by kernel_rfl
 aok := by kernel_rfl
 sump := by kernel_rfl
 both := fun b => by kernel_rfl
 wsm := fun b => by kernel_rfl
theorem okC22 : OkC 22 imgC22 where
 enc := by kernel_rfl
 chk := by kernel_rfl
 len := by kernel_rfl
 dlen := by kernel_rfl
 sml := by kernel_rfl
 aok := by kernel_rfl
 sump := by kernel_rfl
 both := fun b => by kernel_rfl
 wsm := fun b => by kernel_rfl
theorem okC23 : OkC 23 imgC23 where
 enc := by kernel_rfl
 chk := by kernel_rfl
 len := by kernel_rfl
 dlen := by kernel_rfl
 sml := by kernel_rfl
 aok := by kernel_rfl
 sump := by kernel_rfl
 both := fun b => by kernel_rfl
 wsm := fun b => by kernel_rfl
theorem okC24 : OkC 24 imgC24 where
 enc := by kernel_rfl
 chk := by kernel_rfl
 len := by kernel_rfl
 dlen := by kernel_rfl
 sml := by kernel_rfl
 aok := by kernel_rfl
 sump := by kernel_rfl
 both := fun b => by kernel_rfl
 wsm := fun b => by kernel_rfl
end Go.Proofs.YthnhilghjadigaaGreatDoor
