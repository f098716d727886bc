/- The package-level variables that the machine's texts read, and that nothing writes. -/
import Derived.Test.YtjcgiddgafjdpaaGreatDoorFQ4
import Derived.Test.YtjcgiddgafjdpaaGreatDoorFQ2
import Derived.Lib.ItoaMem
import Derived.Shelf.Strconv.Itoa2
namespace Go.Proofs.YtjcgiddgafjdpaaGreatDoor
open Go.RowKit
set_option linter.unusedVariables false
abbrev T10 (w : World) : Prop := Lib.TabIs Tryz.prog w "internal/strconv.uint64pow10" .u64 Lib.pow10Tab
structure qK (w:World):Prop where
 size:8≤w.heap.size
 pow:T10 w
 cost:sJ w
 ert:Iu w
theorem VF {n:String} {g:Nat} {k:IntKind} {zs:List Int} {w w':World} {D:List Nat} (hg:Tryz.prog.globalNamed n = some g) (h:Lib.TabIs Tryz.prog w n k zs) (hc:ah w w' D) (hD:g∉D):Lib.TabIs Tryz.prog w' n k zs:=by
 unfold Lib.TabIs World.var? at *
 rw [hg] at h ⊢
 simp only [Option.bind_some] at h ⊢
 cases ho:w.heap[g]? with
 | none => rw [ho] at h; simp at h
 | some o => rw [hc.heap ho hD]; rw [ho] at h; exact h
theorem qK.aj {w w':World} {D:List Nat} (h:qK w) (hc:ah w w' D) (hD:∀ k∈D,8≤k):qK w' where
 size:=Nat.le_trans h.size hc.size
 pow:=VF (g:=3) (by kernel_rfl) h.pow hc fun hm => absurd (hD _ hm) (by decide)
 cost:=VF (g:=1) (by kernel_rfl) h.cost hc fun hm => absurd (hD _ hm) (by decide)
 ert:=h.ert.aj hc fun hm => absurd (hD _ hm) (by decide)
end Go.Proofs.YtjcgiddgafjdpaaGreatDoor
