/- The machine's laws: what the tied condition gives; a world that meets it. -/
import Derived.Test.YtjmojlhnmkjdkaaGreatDoorOpen
import Derived.HandedShaped
import Derived.Test.YtjmojlhnmkjdkaaGreatDoorGlo
import Derived.LaidMore
import Derived.Stop.LaidErr
import Derived.Lay
set_option linter.unusedVariables false
namespace Go.Proofs.YtjmojlhnmkjdkaaGreatDoor
section
open Go.RowKit
open Go.ChangeShapes Go.WideShapes Go.ChangeAt
theorem IG {H:Type} {enc:TypeId × Value->H} {a:Assume} {C:Checked} {os:Os} {f:FuncId} {fn:Func} {s:ChangeSpec} {conds:List PathCond} {apart fresh handsOn again:Bool} {X:World->Array Value->Prop}
 (hX:∀ (w w':World) (args:Array Value),w.heap=w'.heap->X w args->X w' args)
 (own:ownKnob C.prog.godebug=none) (started:os.Started) (noInit:C.prog.inits.idxOf? f=none) (hfn:C.prog.funcs[f]?=some fn)
 (witness:∃ (w:World) (tape:Tape) (i:Input),w.os=os/\(w.forCall tape i).Shaped C.prog/\i.vars=[]/\Input.okWide C.prog (w.forCall tape i) .any w.heap.size f i /\
   ((s.pre enc C.prog fn conds apart (w.forCall tape i).memory i.args/\X (w.forCall tape i).memory i.args)/\sizedMet enc C.prog fn (OpenSpec.ofChange s) apart (w.forCall tape i).memory i.args)/\a.holds C.prog (lone (Frame.enter C.prog f i.args .normal) [] (w.forCall tape i)))
 (contract:∀ (W:World) (base:Nat) (args:Array Value) (ds gs:List (DataW H)) (before:List MemPlace),
   (∀ (j:Nat) t v,fn.params[j]?=some t->args[j]?=some v->Value.okWide C.prog W .any base t v) ->
   DataW.Whole enc C.prog fn.params.toList s.vars apart W args.toList ds gs before ->
   conds.all (PathCond.test C.prog ⟨fn.params.toList,ds,s.plain.varTypes C.prog,gs⟩)=true ->
   (DataW.weightsEach C.prog (fn.params.toList ++ s.plain.varTypes C.prog) (ds ++ gs)).all (·<=reachBytes)=true->X W args->W.ShapedOpen C.prog ->
   a.holds C.prog (lone (Frame.enter C.prog f args .normal) [] W) ->
   Calls C.prog f args W fun e W'=>∃ v,e=.returned v/\s.post enc C.prog fn apart fresh handsOn again W args v W') :
 ReturnsInHanded a C os f .any (fun w args=>(s.pre enc C.prog fn conds apart w args/\X w args)/\sizedMet enc C.prog fn (OpenSpec.ofChange s) apart w args) (s.post enc C.prog fn apart fresh handsOn again):=by
 refine returnsInHanded_of_calls own started noInit witness ?_;intro w tape i _ hsh _ hok hpre hholds;obtain ⟨_,_,_,fn',hfn',_,_,_,_,hval⟩:=hok;have e:fn'=fn:=Option.some.inj (hfn'.symm.trans hfn);subst e;obtain ⟨⟨⟨ds,gs,before,hw,hc⟩,hx⟩,hz⟩:=hpre;have hw':=DataW.Whole.of_heap (w':=w.forCall tape i) (by rfl) hw;refine (contract (w.forCall tape i) w.heap.size i.args ds gs before hval hw' hc (hz.weights hw) (hX _ _ _ (by rfl) hx) hsh hholds).mono fun e W' ⟨v,he,hp⟩=>?_;subst he;exact ChangeSpec.post_blind hp
end

section
open Go Go.RowKit Go.ChangeShapes Go.WideShapes
theorem aj8 : Tryz.prog.globalNamed "errors.errorType" = some 2 := by kernel_rfl
theorem at7 : (Tryz.prog.cutTypes.find? (·.1 == "internal/reflectlite.rtype")).map (·.2) = some 309 := by kernel_rfl
theorem asE:((List.range Tryz.prog.types.size).filter fun t=>Tryz.prog.rowNamed t [101,114,114,111,114])=[144]:=by kernel_rfl
theorem Zb {W : World} {l : List (String × DataW Unit)} (hl : (l.filter fun x => x.2.handleName?.isSome) = [("errors.errorType", Rows.laid_errors_errorType)]) (h : laidMetH Tryz.prog l W) : Na W := by
 unfold laidMetH at h;rw [hl] at h;obtain ⟨name,u,ty,e1,e2,e3,e4,e5⟩:=h.2 _ (List.mem_singleton.2 rfl);have en:name=[101,114,114,111,114]:=(Option.some.inj e1).symm;subst en;obtain rfl:=Option.some.inj (at7.symm.trans e2);have hm:ty∈(List.range Tryz.prog.types.size).filter fun t=>Tryz.prog.rowNamed t [101,114,114,111,114]:=List.mem_filter.2 ⟨List.mem_range.2 e3,e4⟩;rw [asE] at hm;obtain rfl:=List.mem_singleton.1 hm;have hh:typeHandle Tryz.prog 144=.pointer (some ⟨11,144,none⟩):=by kernel_rfl
 rw [hh] at e5;unfold Na
 simpa using World.var?_cell aj8 e5 0
def oD : List (String × DataW Unit) := [("math/bits.deBruijn32tab", Rows.laid_math_bits_deBruijn32tab), ("math/bits.deBruijn64tab", Rows.laid_math_bits_deBruijn64tab), ("internal/strconv.uint64pow10", Rows.laid_internal_strconv_uint64pow10), ("unicode/utf8.acceptRanges", Rows.laid_unicode_utf8_acceptRanges), ("astrolabe/ops.costs", Rows.laid_astrolabe_ops_costs), ("unicode/utf8.first", Rows.laid_unicode_utf8_first)]
theorem adF:(Rows.laid_astrolabe_ops_costs:DataW Unit)=Lib.tabData .i64 G9:=by kernel_rfl
theorem aj9:(Rows.laid_internal_strconv_uint64pow10:DataW Unit)=Lib.tabData .u64 Lib.pow10Tab:=by kernel_rfl
theorem SK {W:World} (h:laidMet Tryz.prog oD W):vZ W:=by
 have h1:=(laidMet.tail (laidMet.tail (laidMet.tail (laidMet.tail h))))
 rw [adF] at h1;exact Lib.tabIs_of_head (g:=3) (by kernel_rfl) (by kernel_rfl) Tryz.underlying350 Tryz.underlying3 (by kernel_rfl) (by kernel_rfl) h1
theorem Yd {W:World} (h:laidMet Tryz.prog oD W):T10 W:=by
 have h1:=(laidMet.tail (laidMet.tail h))
 rw [aj9] at h1;exact Lib.tabIs_of_head (g:=6) (by kernel_rfl) (by kernel_rfl) Tryz.underlying387 Tryz.underlying306 (by kernel_rfl) (by kernel_rfl) h1
theorem Qx {W:World} (h:W.ShapedOpen Tryz.prog):11<=W.heap.size:=by
 have e:Tryz.prog.globals.size=11:=by kernel_rfl
 obtain ⟨o,_,ho,_⟩:=h.2 11 (by rw [e]; exact Nat.le_refl _) (of_decide_eq_true (by kernel_rfl));exact Nat.le_of_lt (lt_of_heap ho)
theorem asF {W : World} {l : List (String × DataW Unit)} (hl : (l.filter fun x => x.2.handleName?.isSome) = [("errors.errorType", Rows.laid_errors_errorType)]) (hp : (l.filter fun x => x.2.handleName?.isNone) = oD) (h : laidMetH Tryz.prog l W) (hs : W.ShapedOpen Tryz.prog) : qg W := by
 have hLP:laidMet Tryz.prog oD W:=by
  have h':=h;unfold laidMetH at h';rw [hl,hp] at h';exact h'.1
 exact ⟨Qx hs,Yd hLP,SK hLP,Zb hl h⟩
noncomputable def alu (os:Os):World :=
 let w0:=World.holding Tryz.prog os ⟨#[],#[],[]⟩
 { w0 with heap:=w0.heap.modify 2 fun
   | .cells _ t frozen=>.cells #[.iface 309 (.agg #[.pointer (some ⟨11,144,none⟩)])] t frozen
   | o=>o }
noncomputable def adG (os:Os):World:=(alu os).layVars Tryz.prog oD
theorem aj_ (os:Os):(adG os).os=os:=World.layVars_os _ _ _
theorem ag0 (os:Os):laidMet Tryz.prog oD (adG os):=by
 have e1:(oD.filter fun x=>(oD.map (·.1)).contains x.1)=oD:=by kernel_rfl
 have e2:(oD.filter fun x=>!(oD.map (·.1)).contains x.1)=[]:=by kernel_rfl
 exact laidMet_layVars (w0:=alu os) (oD.map (·.1)) [] (by rw [e1]; rfl) (by rw [e1]; kernel_rfl) (by rw [e1]; kernel_rfl) (by rw [e2]; exact LaidIn.none)
