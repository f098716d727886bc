/- The machine's laws: what the tied condition gives; a world that meets it. -/
import Derived.Test.YtjmojlhnmkjdkaaGreatDoorOpenD
import Derived.HandedShaped
import Derived.Test.YtjmojlhnmkjdkaaGreatDoorGloD
import Derived.LaidMore
import Derived.Stop.LaidErr
import Derived.Lay
set_option linter.unusedVariables false
namespace Go.Proofs.YtjmojlhnmkjdkaaGreatDoor
section
open Go.RowKit
open Go.ChangeShapes Go.WideShapes Go.ChangeAt
theorem IX{H:Type}{enc:TypeId×Value->H}{a:Assume}{C:Checked}{os:Os}{f:FuncId}{fn:Func}{s:ChangeSpec}{conds:List PathCond}{apart fresh handsOn again:Bool}{X:World->Array Value->Prop}
 (hX:∀(w w':World) (args:Array Value),w.heap=w'.heap->X w args->X w' args)
 (own:ownKnob C.prog.godebug=none) (started:os.Started) (noInit:C.prog.inits.idxOf? f=none) (hfn:C.prog.funcs[f]?=some fn)
 (witness:∃(w:World) (tape:Tape) (i:Input),w.os=os/\(w.forCall tape i).Shaped C.prog/\i.vars=[]/\Input.okWide C.prog (w.forCall tape i) .any w.heap.size f i /\
   ((s.pre enc C.prog fn conds apart (w.forCall tape i).memory i.args/\X (w.forCall tape i).memory i.args)/\sizedMet enc C.prog fn (OpenSpec.ofChange s) apart (w.forCall tape i).memory i.args)/\a.holds C.prog (lone (Frame.enter C.prog f i.args .normal) [] (w.forCall tape i)))
 (contract:∀(W:World) (base:Nat) (args:Array Value) (ds gs:List (DataW H)) (before:List MemPlace),
   (∀(j:Nat) t v,fn.params[j]?=some t->args[j]?=some v->Value.okWide C.prog W .any base t v) ->
   DataW.Whole enc C.prog fn.params.toList s.vars apart W args.toList ds gs before ->
   conds.all (PathCond.test C.prog ⟨fn.params.toList,ds,s.plain.varTypes C.prog,gs⟩)=true ->
   (DataW.weightsEach C.prog (fn.params.toList++s.plain.varTypes C.prog) (ds++gs)).all (·<=reachBytes)=true->X W args->W.ShapedOpen C.prog ->
   a.holds C.prog (lone (Frame.enter C.prog f args .normal) [] W) ->
   Calls C.prog f args W fun e W'=>∃ v,e=.returned v/\s.post enc C.prog fn apart fresh handsOn again W args v W') :
 ReturnsInHanded a C os f .any (fun w args=>(s.pre enc C.prog fn conds apart w args/\X w args)/\sizedMet enc C.prog fn (OpenSpec.ofChange s) apart w args) (s.post enc C.prog fn apart fresh handsOn again):=by
 refine returnsInHanded_of_calls own started noInit witness ?_;intro w tape i _ hsh _ hok hpre hholds;obtain⟨_,_,_,fn',hfn',_,_,_,_,hval⟩:=hok;have e:fn'=fn:=Option.some.inj (hfn'.symm.trans hfn);subst e;obtain⟨⟨⟨ds,gs,before,hw,hc⟩,hx⟩,hz⟩:=hpre;have hw':=DataW.Whole.of_heap (w':=w.forCall tape i) (by rfl) hw;refine(contract (w.forCall tape i) w.heap.size i.args ds gs before hval hw' hc (hz.weights hw) (hX _ _ _ (by rfl) hx) hsh hholds).mono fun e W' ⟨v,he,hp⟩=>?_;subst he;exact ChangeSpec.post_blind hp
end

section
open Go Go.RowKit Go.ChangeShapes Go.WideShapes
theorem akD : Tryz.prog.globalNamed "errors.errorType" = some 2 := by kernel_rfl
theorem auP : (Tryz.prog.cutTypes.find? (·.1 == "internal/reflectlite.rtype")).map (·.2) = some 309 := by kernel_rfl
theorem atl:((List.range Tryz.prog.types.size).filter fun t=>Tryz.prog.rowNamed t [101,114,114,111,114])=[144]:=by kernel_rfl
theorem Zj {W : World} {l : List (String × DataW Unit)} (hl : (l.filter fun x => x.2.handleName?.isSome) = [("errors.errorType", Rows.laid_errors_errorType)]) (h : laidMetH Tryz.prog l W) : Ny W := by
 unfold laidMetH at h;rw [hl] at h;obtain⟨name,u,ty,e1,e2,e3,e4,e5⟩:=h.2 _ (List.mem_singleton.2 rfl);have en:name=[101,114,114,111,114]:=(Option.some.inj e1).symm;subst en;obtain rfl:=Option.some.inj (auP.symm.trans e2);have hm:ty∈(List.range Tryz.prog.types.size).filter fun t=>Tryz.prog.rowNamed t [101,114,114,111,114]:=List.mem_filter.2 ⟨List.mem_range.2 e3,e4⟩;rw [atl] at hm;obtain rfl:=List.mem_singleton.1 hm;have hh:typeHandle Tryz.prog 144=.pointer (some ⟨11,144,none⟩):=by kernel_rfl
 rw [hh] at e5;unfold Ny
 simpa using World.var?_cell akD e5 0
def lu : List (String × DataW Unit) := [("astrolabe/crc.four", Rows.laid_astrolabe_crc_four), ("math/bits.deBruijn32tab", Rows.laid_math_bits_deBruijn32tab), ("math/bits.deBruijn64tab", Rows.laid_math_bits_deBruijn64tab), ("internal/strconv.uint64pow10", Rows.laid_internal_strconv_uint64pow10), ("unicode/utf8.acceptRanges", Rows.laid_unicode_utf8_acceptRanges), ("astrolabe/frame.errRange", Rows.laid_astrolabe_frame_errRange), ("astrolabe/frame.errForm", Rows.laid_astrolabe_frame_errForm), ("astrolabe/ops.costs", Rows.laid_astrolabe_ops_costs), ("unicode/utf8.first", Rows.laid_unicode_utf8_first)]
theorem adW:(Rows.laid_astrolabe_ops_costs:DataW Unit)=Lib.tabData .i64 Hl:=by kernel_rfl
theorem akE:(Rows.laid_internal_strconv_uint64pow10:DataW Unit)=Lib.tabData .u64 Lib.pow10Tab:=by kernel_rfl
theorem Td {W:World} (h:laidMet Tryz.prog lu W):wG W:=by
 have h1:=(laidMet.tail (laidMet.tail (laidMet.tail (laidMet.tail (laidMet.tail (laidMet.tail (laidMet.tail h)))))))
 rw [adW] at h1;exact Lib.tabIs_of_head (g:=3) (by kernel_rfl) (by kernel_rfl) Tryz.underlying350 Tryz.underlying3 (by kernel_rfl) (by kernel_rfl) h1
theorem Yp {W:World} (h:laidMet Tryz.prog lu W):T10 W:=by
 have h1:=(laidMet.tail (laidMet.tail (laidMet.tail h)))
 rw [akE] at h1;exact Lib.tabIs_of_head (g:=6) (by kernel_rfl) (by kernel_rfl) Tryz.underlying387 Tryz.underlying306 (by kernel_rfl) (by kernel_rfl) h1
theorem ahn:(Rows.laid_astrolabe_crc_four:DataW Unit)=Lib.tabData .i32 TJ:=by kernel_rfl
theorem Tf {W:World} (h:laidMet Tryz.prog lu W):gZ W:=by
 have h1:=h;unfold lu at h1;rw [ahn] at h1;exact Lib.tabIs_of_head (g:=4) (by kernel_rfl) (by kernel_rfl) Tryz.underlying351 Tryz.underlying21 (by kernel_rfl) (by kernel_rfl) h1
theorem QD {W:World} (h:W.ShapedOpen Tryz.prog):11<=W.heap.size:=by
 have e:Tryz.prog.globals.size=11:=by kernel_rfl
 obtain⟨o,_,ho,_⟩:=h.2 11 (by rw [e]; exact Nat.le_refl _) (of_decide_eq_true (by kernel_rfl));exact Nat.le_of_lt (lt_of_heap ho)
theorem atm {W : World} {l : List (String × DataW Unit)} (hl : (l.filter fun x => x.2.handleName?.isSome) = [("errors.errorType", Rows.laid_errors_errorType)]) (hp : (l.filter fun x => x.2.handleName?.isNone) = lu) (h : laidMetH Tryz.prog l W) (hs : W.ShapedOpen Tryz.prog) : oh W := by
 have hLP:laidMet Tryz.prog lu W:=by
  have h':=h;unfold laidMetH at h';rw [hl,hp] at h';exact h'.1
 exact⟨QD hs,Yp hLP,Td hLP,Zj hl h,Tf hLP⟩
noncomputable def alU (os:Os):World :=
 let w0:=World.holding Tryz.prog os ⟨#[],#[],[]⟩
 { w0 with heap:=w0.heap.modify 2 fun
   | .cells _ t frozen=>.cells #[.iface 309 (.agg #[.pointer (some ⟨11,144,none⟩)])] t frozen
   | o=>o }
noncomputable def adX (os:Os):World:=(alU os).layVars Tryz.prog lu
theorem akF(os:Os):(adX os).os=os:=World.layVars_os _ _ _
theorem aho (os:Os):laidMet Tryz.prog lu (adX os):=by
 have e1:(lu.filter fun x=>(lu.map (·.1)).contains x.1)=lu:=by kernel_rfl
 have e2:(lu.filter fun x=>!(lu.map (·.1)).contains x.1)=[]:=by kernel_rfl
 exact laidMet_layVars (w0:=alU os) (lu.map (·.1)) [] (by rw [e1]; rfl) (by rw [e1]; kernel_rfl) (by rw [e1]; kernel_rfl) (by rw [e2]; exact LaidIn.none)
