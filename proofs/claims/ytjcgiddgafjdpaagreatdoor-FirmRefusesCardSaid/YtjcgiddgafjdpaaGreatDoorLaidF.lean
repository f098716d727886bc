/- The machine's laws: what the tied condition gives; a world that meets it. -/
import Derived.Test.YtjcgiddgafjdpaaGreatDoorGlo
import Derived.Test.YtjcgiddgafjdpaaGreatDoorShaped
import Derived.Test.YtjcgiddgafjdpaaGreatDoorOpen
import Derived.Test.YtjcgiddgafjdpaaGreatDoorRows
import Derived.LaidHandle
import Derived.LaidMore
import Derived.Stop.LaidErr
import Derived.Lib.LaidTab
import Derived.Lay
import Derived.JoinedOf
import Derived.WalkKit
import Derived.ProofKit
namespace Go.Proofs.YtjcgiddgafjdpaaGreatDoor
open Go Go.RowKit Go.ChangeShapes Go.WideShapes
set_option linter.unusedVariables false
theorem er_named : Tryz.prog.globalNamed "errors.errorType" = some 0 := by kernel_rfl
theorem er_rt : (Tryz.prog.cutTypes.find? (·.1 == "internal/reflectlite.rtype")).map (·.2) = some 360 := by kernel_rfl
theorem er_row:((List.range Tryz.prog.types.size).filter fun t => Tryz.prog.rowNamed t [101,114,114,111,114]) = [292]:=by kernel_rfl
theorem ert_of_laid {W : World} {l : List (String × DataW Unit)} (hl : (l.filter fun x => x.2.handleName?.isSome) = [("errors.errorType", Rows.laid_errors_errorType)]) (h : laidMetH Tryz.prog l W) : ErT W := by
 unfold laidMetH at h
 rw [hl] at h
 obtain ⟨name,u,ty,e1,e2,e3,e4,e5⟩:=h.2 _ (List.mem_singleton.2 rfl)
 have en:name = [101,114,114,111,114]:=(Option.some.inj e1).symm
 subst en
 obtain rfl:=Option.some.inj (er_rt.symm.trans e2)
 have hm:ty∈(List.range Tryz.prog.types.size).filter fun t => Tryz.prog.rowNamed t [101,114,114,111,114]:=List.mem_filter.2 ⟨List.mem_range.2 e3,e4⟩
 rw [er_row] at hm
 obtain rfl:=List.mem_singleton.1 hm
 have hh:typeHandle Tryz.prog 292 = .pointer (some ⟨8,292,none⟩):=by kernel_rfl
 rw [hh] at e5
 unfold ErT
 simpa using World.var?_cell er_named e5 0
def plainL : List (String × DataW Unit) := [("math/bits.deBruijn32tab", Rows.laid_math_bits_deBruijn32tab), ("math/bits.deBruijn64tab", Rows.laid_math_bits_deBruijn64tab), ("internal/strconv.uint64pow10", Rows.laid_internal_strconv_uint64pow10), ("unicode/utf8.acceptRanges", Rows.laid_unicode_utf8_acceptRanges), ("astrolabe/ops.costs", Rows.laid_astrolabe_ops_costs), ("unicode/utf8.first", Rows.laid_unicode_utf8_first)]
theorem data_costs:(Rows.laid_astrolabe_ops_costs:DataW Unit) = Lib.tabData .i64 costsL:=by kernel_rfl
theorem data_pow:(Rows.laid_internal_strconv_uint64pow10:DataW Unit) = Lib.tabData .u64 Lib.pow10Tab:=by kernel_rfl
theorem ctab_of_plain {W:World} (h:laidMet Tryz.prog plainL W):CTab W:=by
 have h1:=(laidMet.tail (laidMet.tail (laidMet.tail (laidMet.tail h))))
 rw [data_costs] at h1
 exact Lib.tabIs_of_head (g:=1) (by kernel_rfl) (by kernel_rfl) Tryz.underlying346 Tryz.underlying3 (by kernel_rfl) (by kernel_rfl) h1
theorem pow_of_plain {W:World} (h:laidMet Tryz.prog plainL W):T10 W:=by
 have h1:=(laidMet.tail (laidMet.tail h))
 rw [data_pow] at h1
 exact Lib.tabIs_of_head (g:=3) (by kernel_rfl) (by kernel_rfl) Tryz.underlying396 Tryz.underlying303 (by kernel_rfl) (by kernel_rfl) h1
theorem size_of_shaped {W:World} (h:W.ShapedOpen Tryz.prog):8≤W.heap.size:=by
 have e:Tryz.prog.globals.size = 8:=by kernel_rfl
 obtain ⟨o,_,ho,_⟩:=h.2 8 (by rw [e]; exact Nat.le_refl _) (of_decide_eq_true (by kernel_rfl))
 exact Nat.le_of_lt (lt_of_heap ho)
theorem glo_of {W : World} {l : List (String × DataW Unit)} (hl : (l.filter fun x => x.2.handleName?.isSome) = [("errors.errorType", Rows.laid_errors_errorType)]) (hp : (l.filter fun x => x.2.handleName?.isNone) = plainL) (h : laidMetH Tryz.prog l W) (hs : W.ShapedOpen Tryz.prog) : Glo W := by
 have hLP:laidMet Tryz.prog plainL W:=by
  have h':=h
  unfold laidMetH at h'
  rw [hl,hp] at h'
  exact h'.1
 exact ⟨size_of_shaped hs,pow_of_plain hLP,ctab_of_plain hLP,ert_of_laid hl h⟩
noncomputable def hold1 (os:Os):World :=
 let w0:=World.holding Tryz.prog os ⟨#[],#[],[]⟩
 { w0 with heap:=w0.heap.modify 0 fun
   | .cells _ t frozen => .cells #[.iface 360 (.agg #[.pointer (some ⟨8,292,none⟩)])] t frozen
   | o => o }
noncomputable def laidW (os:Os):World:=(hold1 os).layVars Tryz.prog plainL
theorem laidW_os (os:Os):(laidW os).os = os:=World.layVars_os _ _ _
theorem laidW_met (os:Os):laidMet Tryz.prog plainL (laidW os):=by
 have e1:(plainL.filter fun x => (plainL.map (·.1)).contains x.1) = plainL:=by kernel_rfl
 have e2:(plainL.filter fun x => !(plainL.map (·.1)).contains x.1) = []:=by kernel_rfl
 exact laidMet_layVars (w0:=hold1 os) (plainL.map (·.1)) [] (by rw [e1]; rfl) (by rw [e1]; kernel_rfl) (by rw [e1]; kernel_rfl) (by rw [e2]; exact LaidIn.none)
theorem and_i {a b:Bool} (h:a = true) (k:b = true):(a && b) = true:=by rw [h,k]; rfl
set_option maxRecDepth 100000 in
set_option maxHeartbeats 100000000 in
theorem factsRefuses:joinedFacts Tryz.prog 3 Tryz.f3 Rows.firmRefusesSpec Rows.firmRefusesRow = true:=by
 unfold joinedFacts
 repeat' (with_reducible apply and_i)
 all_goals (as_aux_lemma => (show _ = _; kernel_rfl))
end Go.Proofs.YtjcgiddgafjdpaaGreatDoor
