/- The machine's laws: what the tied condition gives; a world that meets it. -/
import Derived.Test.YtjegdngblndkcaaGreatDoorGlo
import Derived.Test.YtjegdngblndkcaaGreatDoorShaped
import Derived.Test.YtjegdngblndkcaaGreatDoorOpen
import Derived.Test.YtjegdngblndkcaaGreatDoorRows
import Derived.LaidHandle
import Derived.LaidMore
import Derived.Stop.LaidErr
import Derived.Lib.LaidTab
import Derived.Lay
namespace Go.Proofs.YtjegdngblndkcaaGreatDoor
open Go Go.RowKit Go.ChangeShapes Go.WideShapes
set_option linter.unusedVariables false
theorem aep : Tryz.prog.globalNamed "errors.errorType" = some 2 := by kernel_rfl
theorem alQ : (Tryz.prog.cutTypes.find? (·.1 == "internal/reflectlite.rtype")).map (·.2) = some 246 := by kernel_rfl
theorem akH:((List.range Tryz.prog.types.size).filter fun t => Tryz.prog.rowNamed t [101,114,114,111,114]) = [103]:=by kernel_rfl
theorem UH {W : World} {l : List (String × DataW Unit)} (hl : (l.filter fun x => x.2.handleName?.isSome) = [("errors.errorType", Rows.laid_errors_errorType)]) (h : laidMetH Tryz.prog l W) : Jf W := by
 unfold laidMetH at h
 rw [hl] at h
 obtain ⟨name,u,ty,e1,e2,e3,e4,e5⟩:=h.2 _ (List.mem_singleton.2 rfl)
 have en:name = [101,114,114,111,114]:=(Option.some.inj e1).symm
 subst en
 obtain rfl:=Option.some.inj (alQ.symm.trans e2)
 have hm:ty∈(List.range Tryz.prog.types.size).filter fun t => Tryz.prog.rowNamed t [101,114,114,111,114]:=List.mem_filter.2 ⟨List.mem_range.2 e3,e4⟩
 rw [akH] at hm
 obtain rfl:=List.mem_singleton.1 hm
 have hh:typeHandle Tryz.prog 103 = .pointer (some ⟨11,103,none⟩):=by kernel_rfl
 rw [hh] at e5
 unfold Jf
 simpa using World.var?_cell aep e5 0
def jh : List (String × DataW Unit) := [("astrolabe/crc.four", Rows.laid_astrolabe_crc_four), ("math/bits.deBruijn32tab", Rows.laid_math_bits_deBruijn32tab), ("math/bits.deBruijn64tab", Rows.laid_math_bits_deBruijn64tab), ("internal/strconv.uint64pow10", Rows.laid_internal_strconv_uint64pow10), ("unicode/utf8.acceptRanges", Rows.laid_unicode_utf8_acceptRanges), ("astrolabe/frame.errRange", Rows.laid_astrolabe_frame_errRange), ("astrolabe/frame.errForm", Rows.laid_astrolabe_frame_errForm), ("astrolabe/ops.costs", Rows.laid_astrolabe_ops_costs), ("unicode/utf8.first", Rows.laid_unicode_utf8_first)]
theorem YQ:(Rows.laid_astrolabe_ops_costs:DataW Unit) = Lib.tabData .i64 DR:=by kernel_rfl
theorem aer:(Rows.laid_internal_strconv_uint64pow10:DataW Unit) = Lib.tabData .u64 Lib.pow10Tab:=by kernel_rfl
theorem Og {W:World} (h:laidMet Tryz.prog jh W):sQ W:=by
 have h1:=(laidMet.tail (laidMet.tail (laidMet.tail (laidMet.tail (laidMet.tail (laidMet.tail (laidMet.tail h)))))))
 rw [YQ] at h1
 exact Lib.tabIs_of_head (g:=4) (by kernel_rfl) (by kernel_rfl) Tryz.underlying307 Tryz.underlying3 (by kernel_rfl) (by kernel_rfl) h1
theorem Tt {W:World} (h:laidMet Tryz.prog jh W):T10 W:=by
 have h1:=(laidMet.tail (laidMet.tail (laidMet.tail h)))
 rw [aer] at h1
 exact Lib.tabIs_of_head (g:=6) (by kernel_rfl) (by kernel_rfl) Tryz.underlying327 Tryz.underlying276 (by kernel_rfl) (by kernel_rfl) h1
theorem abJ:(Rows.laid_astrolabe_crc_four:DataW Unit) = Lib.tabData .i32 OB:=by kernel_rfl
theorem Oh {W:World} (h:laidMet Tryz.prog jh W):jE W:=by
 have h1:=h
 unfold jh at h1
 rw [abJ] at h1
 exact Lib.tabIs_of_head (g:=3) (by kernel_rfl) (by kernel_rfl) Tryz.underlying282 Tryz.underlying21 (by kernel_rfl) (by kernel_rfl) h1
theorem LW {W:World} (h:W.ShapedOpen Tryz.prog):11≤W.heap.size:=by
 have e:Tryz.prog.globals.size = 11:=by kernel_rfl
 obtain ⟨o,_,ho,_⟩:=h.2 11 (by rw [e]; exact Nat.le_refl _) (of_decide_eq_true (by kernel_rfl))
 exact Nat.le_of_lt (lt_of_heap ho)
theorem abK {W : World} {l : List (String × DataW Unit)} (hl : (l.filter fun x => x.2.handleName?.isSome) = [("errors.errorType", Rows.laid_errors_errorType)]) (hp : (l.filter fun x => x.2.handleName?.isNone) = jh) (h : laidMetH Tryz.prog l W) (hs : W.ShapedOpen Tryz.prog) : oh W := by
 have hLP:laidMet Tryz.prog jh W:=by
  have h':=h
  unfold laidMetH at h'
  rw [hl,hp] at h'
  exact h'.1
 exact ⟨LW hs,Tt hLP,Og hLP,UH hl h,Oh hLP⟩
noncomputable def afd (os:Os):World :=
 let w0:=World.holding Tryz.prog os ⟨#[],#[],[]⟩
 { w0 with heap:=w0.heap.modify 2 fun
   | .cells _ t frozen => .cells #[.iface 246 (.agg #[.pointer (some ⟨11,103,none⟩)])] t frozen
   | o => o }
noncomputable def OX (os:Os):World:=(afd os).layVars Tryz.prog jh
theorem Tv (os:Os):(OX os).os = os:=World.layVars_os _ _ _
theorem NG (os:Os):laidMet Tryz.prog jh (OX os):=by
 have e1:(jh.filter fun x => (jh.map (·.1)).contains x.1) = jh:=by kernel_rfl
 have e2:(jh.filter fun x => !(jh.map (·.1)).contains x.1) = []:=by kernel_rfl
 exact laidMet_layVars (w0:=afd os) (jh.map (·.1)) [] (by rw [e1]; rfl) (by rw [e1]; kernel_rfl) (by rw [e1]; kernel_rfl) (by rw [e2]; exact LaidIn.none)
end Go.Proofs.YtjegdngblndkcaaGreatDoor
