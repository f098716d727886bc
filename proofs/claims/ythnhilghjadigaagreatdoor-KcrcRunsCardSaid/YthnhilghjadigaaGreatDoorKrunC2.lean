/- What the core comes to on kcrc's images (9 to 16 bytes). No program is in sight. -/
import Derived.Test.YthnhilghjadigaaGreatDoorKrunC
namespace Go.Proofs.YthnhilghjadigaaGreatDoor
open Go Go.RowKit Go.Proofs.YthnhilghjadigaaGreatDoor.Ab Go.Proofs.YthnhilghjadigaaGreatDoor.Xi
set_option linter.unusedVariables false
set_option maxRecDepth 100000
theorem okC9 : OkC 9 imgC9 where
 enc := by kernel_rfl
 chk := by kernel_rfl
 len := by kernel_rfl
 dlen := by kernel_rfl
 sml := by kernel_rfl
 aok := by kernel_rfl
 sump := by kernel_rfl
 both := fun b => by kernel_rfl
 wsm := fun b => by kernel_rfl
theorem okC10 : OkC 10 imgC10 where
 enc := by kernel_rfl
 chk := by kernel_rfl
 len := by kernel_rfl
 dlen := by kernel_rfl
 sml := by kernel_rfl
 aok := by kernel_rfl
 sump := by kernel_rfl
 both := fun b => by kernel_rfl
 wsm := fun b => by kernel_rfl
theorem okC11 : OkC 11 imgC11 where
 enc := by kernel_rfl
 chk := by kernel_rfl
 len := by kernel_rfl
 dlen := by kernel_rfl
 sml := by kernel_rfl
 aok := by kernel_rfl
 sump := by kernel_rfl
 both := fun b => by kernel_rfl
 wsm := fun b => by kernel_rfl
theorem okC12 : OkC 12 imgC12 where
 enc := by kernel_rfl
 chk := by kernel_rfl
 len := by kernel_rfl
 dlen := by kernel_rfl
 sml := by kernel_rfl
 aok := by kernel_rfl
 sump := by kernel_rfl
 both := fun b => by kernel_rfl
 wsm := fun b => by kernel_rfl
theorem okC13 : OkC 13 imgC13 where
 enc := by kernel_rfl
 chk := by kernel_rfl
 len := by kernel_rfl
 dlen := by kernel_rfl
 sml := by kernel_rfl
 aok := by kernel_rfl
 sump := by kernel_rfl
 both := fun b => by kernel_rfl
 wsm := fun b => by kernel_rfl
theorem okC14 : OkC 14 imgC14 where
 enc := by kernel_rfl
 chk := by kernel_rfl
 len := by kernel_rfl
 dlen := by kernel_rfl
 sml := by kernel_rfl
 aok := by kernel_rfl
 sump := by kernel_rfl
 both := fun b => by kernel_rfl
 wsm := fun b => by kernel_rfl
theorem okC15 : OkC 15 imgC15 where
 enc := by kernel_rfl
 chk := by kernel_rfl
 len := by kernel_rfl
 dlen := by kernel_rfl
 sml := by kernel_rfl
 aok := by kernel_rfl
 sump := by kernel_rfl
 both := fun b => by kernel_rfl
 wsm := fun b => by kernel_rfl
theorem okC16 : OkC 16 imgC16 where
 enc := by kernel_rfl
 chk := by kernel_rfl
 len := by kernel_rfl
 dlen := by kernel_rfl
 sml := by kernel_rfl
 aok := by kernel_rfl
 sump := by kernel_rfl
 both := fun b => by kernel_rfl
 wsm := fun b => by kernel_rfl
end Go.Proofs.YthnhilghjadigaaGreatDoor
