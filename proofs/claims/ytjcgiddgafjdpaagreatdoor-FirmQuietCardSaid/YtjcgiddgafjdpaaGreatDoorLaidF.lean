/- The machine's laws: what the tied condition gives; a world that meets it. -/
import Derived.Test.YtjcgiddgafjdpaaGreatDoorRows
import Derived.JoinedOf
import Derived.WalkKit
import Derived.ProofKit
import Derived.Test.YtjcgiddgafjdpaaGreatDoorGlo
import Derived.Test.YtjcgiddgafjdpaaGreatDoorShaped
import Derived.Test.YtjcgiddgafjdpaaGreatDoorOpen
import Derived.LaidHandle
import Derived.LaidMore
import Derived.Stop.LaidErr
import Derived.Lib.LaidTab
import Derived.Lay
namespace Go.Proofs.YtjcgiddgafjdpaaGreatDoor
open Go Go.RowKit Go.ChangeShapes Go.WideShapes
theorem Zw {a b:Bool} (h:a = true) (k:b = true):(a && b) = true:=by rw [h,k]; rfl
set_option maxRecDepth 100000 in
set_option maxHeartbeats 100000000 in
theorem Zx:joinedFacts Tryz.prog 4 Tryz.f4 Rows.firmQuietSpec Rows.firmQuietRow = true:=by
 unfold joinedFacts
 repeat' (with_reducible apply Zw)
 all_goals (as_aux_lemma => (show _ = _; kernel_rfl))
end Go.Proofs.YtjcgiddgafjdpaaGreatDoor

namespace Go.Proofs.YtjcgiddgafjdpaaGreatDoor
open Go Go.RowKit Go.ChangeShapes Go.WideShapes
set_option linter.unusedVariables false
theorem afd : Tryz.prog.globalNamed "errors.errorType" = some 0 := by kernel_rfl
theorem an1 : (Tryz.prog.cutTypes.find? (·.1 == "internal/reflectlite.rtype")).map (·.2) = some 360 := by kernel_rfl
theorem amO:((List.range Tryz.prog.types.size).filter fun t => Tryz.prog.rowNamed t [101,114,114,111,114]) = [292]:=by kernel_rfl
theorem Vd {W : World} {l : List (String × DataW Unit)} (hl : (l.filter fun x => x.2.handleName?.isSome) = [("errors.errorType", Rows.laid_errors_errorType)]) (h : laidMetH Tryz.prog l W) : Iu W := by
 unfold laidMetH at h
 rw [hl] at h
 obtain ⟨name,u,ty,e1,e2,e3,e4,e5⟩:=h.2 _ (List.mem_singleton.2 rfl)
 have en:name = [101,114,114,111,114]:=(Option.some.inj e1).symm
 subst en
 obtain rfl:=Option.some.inj (an1.symm.trans e2)
 have hm:ty∈(List.range Tryz.prog.types.size).filter fun t => Tryz.prog.rowNamed t [101,114,114,111,114]:=List.mem_filter.2 ⟨List.mem_range.2 e3,e4⟩
 rw [amO] at hm
 obtain rfl:=List.mem_singleton.1 hm
 have hh:typeHandle Tryz.prog 292 = .pointer (some ⟨8,292,none⟩):=by kernel_rfl
 rw [hh] at e5
 unfold Iu
 simpa using World.var?_cell afd e5 0
def lT : List (String × DataW Unit) := [("math/bits.deBruijn32tab", Rows.laid_math_bits_deBruijn32tab), ("math/bits.deBruijn64tab", Rows.laid_math_bits_deBruijn64tab), ("internal/strconv.uint64pow10", Rows.laid_internal_strconv_uint64pow10), ("unicode/utf8.acceptRanges", Rows.laid_unicode_utf8_acceptRanges), ("astrolabe/ops.costs", Rows.laid_astrolabe_ops_costs), ("unicode/utf8.first", Rows.laid_unicode_utf8_first)]
theorem Zy:(Rows.laid_astrolabe_ops_costs:DataW Unit) = Lib.tabData .i64 Dc:=by kernel_rfl
theorem afe:(Rows.laid_internal_strconv_uint64pow10:DataW Unit) = Lib.tabData .u64 Lib.pow10Tab:=by kernel_rfl
theorem Oc {W:World} (h:laidMet Tryz.prog lT W):sJ W:=by
 have h1:=(laidMet.tail (laidMet.tail (laidMet.tail (laidMet.tail h))))
 rw [Zy] at h1
 exact Lib.tabIs_of_head (g:=1) (by kernel_rfl) (by kernel_rfl) Tryz.underlying346 Tryz.underlying3 (by kernel_rfl) (by kernel_rfl) h1
theorem Ue {W:World} (h:laidMet Tryz.prog lT W):T10 W:=by
 have h1:=(laidMet.tail (laidMet.tail h))
 rw [afe] at h1
 exact Lib.tabIs_of_head (g:=3) (by kernel_rfl) (by kernel_rfl) Tryz.underlying396 Tryz.underlying303 (by kernel_rfl) (by kernel_rfl) h1
theorem LQ {W:World} (h:W.ShapedOpen Tryz.prog):8≤W.heap.size:=by
 have e:Tryz.prog.globals.size = 8:=by kernel_rfl
 obtain ⟨o,_,ho,_⟩:=h.2 8 (by rw [e]; exact Nat.le_refl _) (of_decide_eq_true (by kernel_rfl))
 exact Nat.le_of_lt (lt_of_heap ho)
theorem amP {W : World} {l : List (String × DataW Unit)} (hl : (l.filter fun x => x.2.handleName?.isSome) = [("errors.errorType", Rows.laid_errors_errorType)]) (hp : (l.filter fun x => x.2.handleName?.isNone) = lT) (h : laidMetH Tryz.prog l W) (hs : W.ShapedOpen Tryz.prog) : qK W := by
 have hLP:laidMet Tryz.prog lT W:=by
  have h':=h
  unfold laidMetH at h'
  rw [hl,hp] at h'
  exact h'.1
 exact ⟨LQ hs,Ue hLP,Oc hLP,Vd hl h⟩
noncomputable def agh (os:Os):World :=
 let w0:=World.holding Tryz.prog os ⟨#[],#[],[]⟩
 { w0 with heap:=w0.heap.modify 0 fun
   | .cells _ t frozen => .cells #[.iface 360 (.agg #[.pointer (some ⟨8,292,none⟩)])] t frozen
   | o => o }
noncomputable def Zz (os:Os):World:=(agh os).layVars Tryz.prog lT
theorem aff (os:Os):(Zz os).os = os:=World.layVars_os _ _ _
theorem acA (os:Os):laidMet Tryz.prog lT (Zz os):=by
 have e1:(lT.filter fun x => (lT.map (·.1)).contains x.1) = lT:=by kernel_rfl
 have e2:(lT.filter fun x => !(lT.map (·.1)).contains x.1) = []:=by kernel_rfl
 exact laidMet_layVars (w0:=agh os) (lT.map (·.1)) [] (by rw [e1]; rfl) (by rw [e1]; kernel_rfl) (by rw [e1]; kernel_rfl) (by rw [e2]; exact LaidIn.none)
end Go.Proofs.YtjcgiddgafjdpaaGreatDoor
