/- What the core comes to on kcrc's images (1 to 8 bytes). No program is in sight. -/
import Derived.Test.YthnhilghjadigaaGreatDoorKrunC
namespace Go.Proofs.YthnhilghjadigaaGreatDoor
open Go Go.RowKit Go.Proofs.YthnhilghjadigaaGreatDoor.Ab Go.Proofs.YthnhilghjadigaaGreatDoor.Xi
set_option linter.unusedVariables false
set_option maxRecDepth 100000
theorem okC1 : OkC 1 imgC1 where
 enc := by kernel_rfl
 chk := by kernel_rfl
 len := by kernel_rfl
 dlen := by kernel_rfl
 sml := by kernel_rfl
 aok := by kernel_rfl
 sump := by kernel_rfl
 both := fun b => by kernel_rfl
 wsm := fun b => by kernel_rfl
theorem okC2 : OkC 2 imgC2 where
 enc := by kernel_rfl
 chk := by kernel_rfl
 len := by kernel_rfl
 dlen := by kernel_rfl
 sml := by kernel_rfl
 aok := by kernel_rfl
 sump := by kernel_rfl
 both := fun b => by kernel_rfl
 wsm := fun b => by kernel_rfl
theorem okC3 : OkC 3 imgC3 where
 enc := by kernel_rfl
 chk := by kernel_rfl
 len := by kernel_rfl
 dlen := by kernel_rfl
 sml := by kernel_rfl
 aok := by kernel_rfl
 sump := by kernel_rfl
 both := fun b => by kernel_rfl
 wsm := fun b => by kernel_rfl
theorem okC4 : OkC 4 imgC4 where
 enc := by kernel_rfl
 chk := by kernel_rfl
 len := by kernel_rfl
 dlen := by kernel_rfl
 sml := by kernel_rfl
 aok := by kernel_rfl
 sump := by kernel_rfl
 both := fun b => by kernel_rfl
 wsm := fun b => by kernel_rfl
theorem okC5 : OkC 5 imgC5 where
 enc := by kernel_rfl
 chk := by kernel_rfl
 len := by kernel_rfl
 dlen := by kernel_rfl
 sml := by kernel_rfl
 aok := by kernel_rfl
 sump := by kernel_rfl
 both := fun b => by kernel_rfl
 wsm := fun b => by kernel_rfl
theorem okC6 : OkC 6 imgC6 where
 enc := by kernel_rfl
 chk := by kernel_rfl
 len := by kernel_rfl
 dlen := by kernel_rfl
 sml := by kernel_rfl
 aok := by kernel_rfl
 sump := by kernel_rfl
 both := fun b => by kernel_rfl
 wsm := fun b => by kernel_rfl
theorem okC7 : OkC 7 imgC7 where
 enc := by kernel_rfl
 chk := by kernel_rfl
 len := by kernel_rfl
 dlen := by kernel_rfl
 sml := by kernel_rfl
 aok := by kernel_rfl
 sump := by kernel_rfl
 both := fun b => by kernel_rfl
 wsm := fun b => by kernel_rfl
theorem okC8 : OkC 8 imgC8 where
 enc := by kernel_rfl
 chk := by kernel_rfl
 len := by kernel_rfl
 dlen := by kernel_rfl
 sml := by kernel_rfl
 aok := by kernel_rfl
 sump := by kernel_rfl
 both := fun b => by kernel_rfl
 wsm := fun b => by kernel_rfl
end Go.Proofs.YthnhilghjadigaaGreatDoor
