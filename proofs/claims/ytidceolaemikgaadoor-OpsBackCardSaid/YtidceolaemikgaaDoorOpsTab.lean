/- What the tied condition of the laws of layer 6 gives: both tables lie as the text lays them. -/
import Derived.Test.YtidceolaemikgaaDoorOpsLaw
import Derived.LaidMore
import Derived.Lib.LaidTab
import Derived.Stop.LaidErr
namespace Go.Proofs.YtidceolaemikgaaDoor
open Go.RowKit
theorem data_space : (Rows.laid_strings_asciiSpace : DataW Unit) = Lib.tabData .u8 Lib.asciiSpaceTab := by kernel_rfl
theorem data_costs : (Rows.laid_astrolabe_ops_costs : DataW Unit) = Lib.tabData .i64 costsL := by kernel_rfl
theorem tabs_of_laid {W : World} (h : laidMet Tryd.prog Rows.opsTellRow.laid W) : Tab W ∧ CTab W := by
  have h : laidMet Tryd.prog [("unicode.White_Space", Rows.laid_unicode_White_Space), ("strings.asciiSpace", Rows.laid_strings_asciiSpace), ("astrolabe/ops.costs", Rows.laid_astrolabe_ops_costs)] W := h
  rw [data_space, data_costs] at h
  have h1 := laidMet.tail h
  have h2 := laidMet.tail h1
  exact ⟨Lib.tabIs_of_head (g := 1) (by kernel_rfl) (by kernel_rfl) Tryd.underlying63 Tryd.underlying5 (by kernel_rfl) (by kernel_rfl) h1,
    Lib.tabIs_of_head (g := 0) (by kernel_rfl) (by kernel_rfl) Tryd.underlying43 Tryd.underlying3 (by kernel_rfl) (by kernel_rfl) h2⟩
end Go.Proofs.YtidceolaemikgaaDoor
