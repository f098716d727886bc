/- What the tied condition of the laws of layers 37, 43 gives: the table of package crc lies as the text lays it; bytes as they are handed in. -/
import Derived.Test.YtihgijhjhmjolaaGreatDoorVP16
import Derived.Test.YtihgijhjhmjolaaGreatDoorVP18
import Derived.Test.YtihgijhjhmjolaaGreatDoorRows
import Derived.LaidMore
import Derived.Lib.LaidTab
namespace Go.Proofs.YtihgijhjhmjolaaGreatDoor.Xi
open Go Go.RowKit Go.Deep
theorem data_four : (Rows.laid_astrolabe_crc_four : DataW Unit) = Lib.tabData .i32 fourL := by kernel_rfl
theorem ftab_of_laid {W : World} (h : laidMet Tryz.prog [("astrolabe/crc.four", Rows.laid_astrolabe_crc_four), ("astrolabe/frame.errRange", Rows.laid_astrolabe_frame_errRange)] W) : FTab W := by
 rw [data_four] at h
 exact Lib.tabIs_of_head (g := 1) (by kernel_rfl) (by kernel_rfl) Tryz.underlying215 Tryz.underlying21 (by kernel_rfl) (by kernel_rfl) h
end Go.Proofs.YtihgijhjhmjolaaGreatDoor.Xi
