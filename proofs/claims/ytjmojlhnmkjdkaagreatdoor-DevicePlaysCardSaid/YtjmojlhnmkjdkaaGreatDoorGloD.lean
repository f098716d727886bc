/- The package-level variables that the machine's texts read, and that nothing writes. -/
import Derived.Test.YtjmojlhnmkjdkaaGreatDoorDP3
import Derived.Test.YtjmojlhnmkjdkaaGreatDoorDP6
import Derived.Lib.ItoaMem
import Derived.Shelf.Strconv.Itoa2
set_option linter.unusedVariables false
namespace Go.Proofs.YtjmojlhnmkjdkaaGreatDoor
open Go.RowKit
abbrev T10 (w : World) : Prop := Lib.TabIs Tryz.prog w "internal/strconv.uint64pow10" .u64 Lib.pow10Tab
structure oh (w:World):Prop where
 size:11<=w.heap.size
 pow:T10 w
 cost:wG w
 ert:Ny w
 four:gZ w
theorem PU{n:String}{g:Nat}{k:IntKind}{zs:List Int}{w w':World}{D:List Nat}(hg:Tryz.prog.globalNamed n=some g)(h:Lib.TabIs Tryz.prog w n k zs)(hc:ah w w' D)(hD:g∉D):Lib.TabIs Tryz.prog w' n k zs:=by
 unfold Lib.TabIs World.var? at *;rw [hg] at h ⊢;simp only [Option.bind_some] at h ⊢
 cases ho:w.heap[g]? with
 | none=>rw [ho] at h; simp at h
 | some o=>rw [hc.heap ho hD]; rw [ho] at h; exact h
theorem oh.aj {w w':World} {D:List Nat} (h:oh w) (hc:ah w w' D) (hD:∀ k∈D,11<=k):oh w' where
 size:=Nat.le_trans h.size hc.size
 pow:=PU (g:=6) (by kernel_rfl) h.pow hc fun hm=>absurd (hD _ hm) (by decide)
 cost:=PU (g:=3) (by kernel_rfl) h.cost hc fun hm=>absurd (hD _ hm) (by decide)
 ert:=h.ert.aj hc fun hm=>absurd (hD _ hm) (by decide)
 four:=PU (g:=4) (by kernel_rfl) h.four hc fun hm=>absurd (hD _ hm) (by decide)
