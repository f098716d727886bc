/- The machine's laws: what the tied condition gives; a world that meets it. -/
import Derived.Test.YtbhikopphamgjaaGreatDoorOpen
import Derived.Shelf.Vars
import Derived.HandedShaped
import Derived.Test.YtbhikopphamgjaaGreatDoorGlo
import Derived.LaidMore
import Derived.Stop.LaidErr
import Derived.Lay
set_option linter.unusedVariables false
namespace Go.Proofs.YtbhikopphamgjaaGreatDoor
open Go.RowKit
open Go.ChangeShapes Go.WideShapes Go.ChangeAt
theorem o7 {H:Type} {enc:TypeId × Value->H} {a:Assume} {C:Checked} {os:Os} {f:FuncId} {fn:Func} {s:ChangeSpec} {conds:List PathCond} {apart fresh handsOn again:Bool} {X:World->Array Value->Prop}
 (hX:∀ (w w':World) (args:Array Value),w.heap = w'.heap->X w args->X w' args)
 (own:ownKnob C.prog.godebug = none) (started:os.Started) (noInit:C.prog.inits.idxOf? f = none) (hfn:C.prog.funcs[f]? = some fn)
 (witness:∃ (w:World) (tape:Tape) (i:Input),w.os = os/\(w.forCall tape i).Shaped C.prog/\i.vars = []/\Input.okWide C.prog (w.forCall tape i) .any w.heap.size f i /\
   ((s.pre enc C.prog fn conds apart (w.forCall tape i).memory i.args/\X (w.forCall tape i).memory i.args)/\sizedMet enc C.prog fn (OpenSpec.ofChange s) apart (w.forCall tape i).memory i.args)/\a.holds C.prog (lone (Frame.enter C.prog f i.args .normal) [] (w.forCall tape i)))
 (contract:∀ (W:World) (base:Nat) (args:Array Value) (ds gs:List (DataW H)) (before:List MemPlace),
   (∀ (j:Nat) t v,fn.params[j]? = some t->args[j]? = some v->Value.okWide C.prog W .any base t v) ->
   DataW.Whole enc C.prog fn.params.toList s.vars apart W args.toList ds gs before ->
   conds.all (PathCond.test C.prog ⟨fn.params.toList,ds,s.plain.varTypes C.prog,gs⟩) = true ->
   (DataW.weightsEach C.prog (fn.params.toList ++ s.plain.varTypes C.prog) (ds ++ gs)).all (·<=reachBytes) = true->X W args->W.ShapedOpen C.prog ->
   a.holds C.prog (lone (Frame.enter C.prog f args .normal) [] W) ->
   Calls C.prog f args W fun e W' => ∃ v,e = .returned v/\s.post enc C.prog fn apart fresh handsOn again W args v W') :
 ReturnsInHanded a C os f .any (fun w args => (s.pre enc C.prog fn conds apart w args/\X w args)/\sizedMet enc C.prog fn (OpenSpec.ofChange s) apart w args) (s.post enc C.prog fn apart fresh handsOn again):=by
 refine returnsInHanded_of_calls own started noInit witness ?_;intro w tape i _ hsh _ hok hpre hholds;obtain ⟨_,_,_,fn',hfn',_,_,_,_,hval⟩:=hok;have e:fn' = fn:=Option.some.inj (hfn'.symm.trans hfn);subst e;obtain ⟨⟨⟨ds,gs,before,hw,hc⟩,hx⟩,hz⟩:=hpre;have hw':=DataW.Whole.of_heap (w':=w.forCall tape i) (by rfl) hw;refine (contract (w.forCall tape i) w.heap.size i.args ds gs before hval hw' hc (hz.weights hw) (hX _ _ _ (by rfl) hx) hsh hholds).mono fun e W' ⟨v,he,hp⟩ => ?_;subst he;exact ChangeSpec.post_blind hp
end Go.Proofs.YtbhikopphamgjaaGreatDoor

set_option linter.unusedVariables false
namespace Go.Proofs.YtbhikopphamgjaaGreatDoor
open Go Go.RowKit Go.ChangeShapes Go.WideShapes
theorem afP : Tryz.prog.globalNamed "errors.errorType" = some 2 := by kernel_rfl
theorem anT : (Tryz.prog.cutTypes.find? (·.1 == "internal/reflectlite.rtype")).map (·.2) = some 262 := by kernel_rfl
theorem amE:((List.range Tryz.prog.types.size).filter fun t => Tryz.prog.rowNamed t [101,114,114,111,114]) = [119]:=by kernel_rfl
theorem VR {W : World} {l : List (String × DataW Unit)} (hl : (l.filter fun x => x.2.handleName?.isSome) = [("errors.errorType", Rows.laid_errors_errorType)]) (h : laidMetH Tryz.prog l W) : J3 W := by
 unfold laidMetH at h;rw [hl] at h;obtain ⟨name,u,ty,e1,e2,e3,e4,e5⟩:=h.2 _ (List.mem_singleton.2 rfl);have en:name = [101,114,114,111,114]:=(Option.some.inj e1).symm;subst en;obtain rfl:=Option.some.inj (anT.symm.trans e2);have hm:ty∈(List.range Tryz.prog.types.size).filter fun t => Tryz.prog.rowNamed t [101,114,114,111,114]:=List.mem_filter.2 ⟨List.mem_range.2 e3,e4⟩;rw [amE] at hm;obtain rfl:=List.mem_singleton.1 hm;have hh:typeHandle Tryz.prog 119 = .pointer (some ⟨11,119,none⟩):=by kernel_rfl
 rw [hh] at e5;unfold J3
 simpa using World.var?_cell afP e5 0
def jw : List (String × DataW Unit) := [("astrolabe/crc.four", Rows.laid_astrolabe_crc_four), ("math/bits.deBruijn32tab", Rows.laid_math_bits_deBruijn32tab), ("math/bits.deBruijn64tab", Rows.laid_math_bits_deBruijn64tab), ("internal/strconv.uint64pow10", Rows.laid_internal_strconv_uint64pow10), ("unicode/utf8.acceptRanges", Rows.laid_unicode_utf8_acceptRanges), ("astrolabe/frame.errRange", Rows.laid_astrolabe_frame_errRange), ("astrolabe/frame.errForm", Rows.laid_astrolabe_frame_errForm), ("astrolabe/ops.costs", Rows.laid_astrolabe_ops_costs), ("unicode/utf8.first", Rows.laid_unicode_utf8_first)]
theorem aae:(Rows.laid_astrolabe_ops_costs:DataW Unit) = Lib.tabData .i64 Ew:=by kernel_rfl
theorem afQ:(Rows.laid_internal_strconv_uint64pow10:DataW Unit) = Lib.tabData .u64 Lib.pow10Tab:=by kernel_rfl
theorem Pj {W:World} (h:laidMet Tryz.prog jw W):tX W:=by
 have h1:=(laidMet.tail (laidMet.tail (laidMet.tail (laidMet.tail (laidMet.tail (laidMet.tail (laidMet.tail h)))))))
 rw [aae] at h1;exact Lib.tabIs_of_head (g:=4) (by kernel_rfl) (by kernel_rfl) Tryz.underlying323 Tryz.underlying3 (by kernel_rfl) (by kernel_rfl) h1
theorem UH {W:World} (h:laidMet Tryz.prog jw W):T10 W:=by
 have h1:=(laidMet.tail (laidMet.tail (laidMet.tail h)))
 rw [afQ] at h1;exact Lib.tabIs_of_head (g:=6) (by kernel_rfl) (by kernel_rfl) Tryz.underlying343 Tryz.underlying292 (by kernel_rfl) (by kernel_rfl) h1
theorem ac8:(Rows.laid_astrolabe_crc_four:DataW Unit) = Lib.tabData .i32 PS:=by kernel_rfl
theorem Pm {W:World} (h:laidMet Tryz.prog jw W):jU W:=by
 have h1:=h;unfold jw at h1;rw [ac8] at h1;exact Lib.tabIs_of_head (g:=3) (by kernel_rfl) (by kernel_rfl) Tryz.underlying298 Tryz.underlying21 (by kernel_rfl) (by kernel_rfl) h1
theorem Nv {W:World} (h:W.ShapedOpen Tryz.prog):11<=W.heap.size:=by
 have e:Tryz.prog.globals.size = 11:=by kernel_rfl
 obtain ⟨o,_,ho,_⟩:=h.2 11 (by rw [e]; exact Nat.le_refl _) (of_decide_eq_true (by kernel_rfl));exact Nat.le_of_lt (lt_of_heap ho)
theorem UJ {W : World} {l : List (String × DataW Unit)} (hl : (l.filter fun x => x.2.handleName?.isSome) = [("errors.errorType", Rows.laid_errors_errorType)]) (hp : (l.filter fun x => x.2.handleName?.isNone) = jw) (h : laidMetH Tryz.prog l W) (hs : W.ShapedOpen Tryz.prog) : iZ W := by
 have hLP:laidMet Tryz.prog jw W:=by
  have h':=h;unfold laidMetH at h';rw [hl,hp] at h';exact h'.1
 exact ⟨Nv hs,UH hLP,Pj hLP,VR hl h,Pm hLP⟩
noncomputable def agP (os:Os):World :=
 let w0:=World.holding Tryz.prog os ⟨#[],#[],[]⟩
 { w0 with heap:=w0.heap.modify 2 fun
   | .cells _ t frozen => .cells #[.iface 262 (.agg #[.pointer (some ⟨11,119,none⟩)])] t frozen
   | o => o }
noncomputable def LH (os:Os):World:=(agP os).layVars Tryz.prog jw
theorem Jt (os:Os):(LH os).os = os:=World.layVars_os _ _ _
theorem FN (os:Os):laidMet Tryz.prog jw (LH os):=by
 have e1:(jw.filter fun x => (jw.map (·.1)).contains x.1) = jw:=by kernel_rfl
 have e2:(jw.filter fun x => !(jw.map (·.1)).contains x.1) = []:=by kernel_rfl
 exact laidMet_layVars (w0:=agP os) (jw.map (·.1)) [] (by rw [e1]; rfl) (by rw [e1]; kernel_rfl) (by rw [e1]; kernel_rfl) (by rw [e2]; exact LaidIn.none)
end Go.Proofs.YtbhikopphamgjaaGreatDoor
