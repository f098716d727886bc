/- TopTrace proved: whatever is handed in, the law answers true, and all arguments read as they did. (The frame follows the kit's own shell for such laws; the walk stands in the texts that are imported.) -/
import Derived.Test.YtnkmmaijigihpaaGreatDoorTopB
import Derived.Test.YtnkmmaijigihpaaGreatDoorFactsTop
import Derived.Test.YtnkmmaijigihpaaGreatDoorLaidTop
import Derived.ShutString
import Derived.Test.YtnkmmaijigihpaaGreatDoorCards
import Derived.Test.YtnkmmaijigihpaaGreatDoorTie
set_option maxHeartbeats 8000000
namespace Go.Proofs.YtnkmmaijigihpaaGreatDoor.topTrace
open Go.ChangeShapes Go.WideShapes Go.ChangeAt Go.RowKit
open Go.ChangeMaps (open_string shut_string)
set_option linter.unusedVariables false
theorem own:ownKnob Tryz.prog.godebug = none:=by kernel_rfl
theorem laidOut:laidOutB Tryz.prog = true:=by kernel_rfl
set_option maxRecDepth 100000 in
theorem lifted (os:Os) (started:os.Started) (H:Type) (enc:TypeId × Value→H) :
 ReturnsInHanded {} Tryz.checked os 3 .any (fun w args => (Rows.topTraceSpec.pre enc Tryz.prog Tryz.f3 [] false w args∧laidMetH Tryz.prog Rows.topTraceRow.laid w)∧sizedMet enc Tryz.prog Tryz.f3 (OpenSpec.ofChange Rows.topTraceSpec) false w args) (Rows.topTraceSpec.post enc Tryz.prog Tryz.f3 false true false false):=by
 refine Fg (C:=Tryz.checked) (X:=fun w _ => laidMetH Tryz.prog Rows.topTraceRow.laid w) (fun _ _ _ hh h => h.of_heap hh) own started (by kernel_rfl) Tryz.func3
  (ChangeSpec.witness_shaped (enc:=enc) (C:=Tryz.checked) (os:=os) (X:=fun w _ => laidMetH Tryz.prog Rows.topTraceRow.laid w) false (aaq os) #[.slice none 0 0,.slice none 0 0] 8 (agj _) (World.shaped_of_ZipB (by kernel_rfl) (by kernel_rfl)) (by kernel_rfl) (by kernel_rfl) (by kernel_rfl)
    (laidMetH_of_parts (by rw [show (Rows.topTraceRow.laid.filter fun x => x.2.handleName?.isNone) = jW by kernel_rfl]; exact (adx os).of_heap (by simp [World.memory,World.forCall,Input.heap])) (by kernel_rfl))) ?_
 intro W base args ds gs before hval0 hW hcnd _ hLH hsh _;have hG:jw W:=anx (by kernel_rfl) (by kernel_rfl) hLH hsh;have hval:∀ (j:Nat) t v,Tryz.f3.params[j]? = some t→args[j]? = some v→Value.okWide Tryz.prog W .any base t v:=hval0;have hW':=hW;obtain ⟨p,q,hA0,hV,rfl,hfz,hnd⟩:=hW;have hA:DataW.TrodAll enc Tryz.prog W 0 (fun _ => true) true Tryz.f3.params.toList args.toList ds p:=hA0;rw [Tryz.params3] at hA hval;obtain ⟨v0,vs0,d0,ds0,p0,q0,hargs,rfl,rfl,h0,r0⟩:=trodAll_cons hA;obtain ⟨v1,vs1,d1,ds1,p1,q1,rfl,rfl,rfl,h1,r1⟩:=trodAll_cons r0;obtain ⟨rfl,rfl,rfl⟩:=trodAll_nil r1;obtain rfl:args = #[v0,v1]:=by cases args; simp_all
 obtain ⟨rfl,rfl⟩:=trodVars_none hV;have k0:=h0;have lt0:∀ x∈p0,x.block < W.heap.size:=by obtain ⟨m,hm⟩:=k0; exact DataW.trod_lt m _ _ _ hm
 have k1:=h1;have lt1:∀ x∈p1,x.block < W.heap.size:=by obtain ⟨m,hm⟩:=k1; exact DataW.trod_lt m _ _ _ hm
 obtain ⟨A0,len0,cap0,rfl⟩:=okWide_slice Tryz.underlying22 (hval 0 22 v0 rfl rfl);obtain ⟨fuel0,hf0⟩:=h0;obtain ⟨A1,len1,cap1,rfl⟩:=okWide_slice Tryz.underlying22 (hval 1 22 v1 rfl rfl);obtain ⟨fuel1,hf1⟩:=h1;clear hA0 hval0
 have hwalk:Calls Tryz.prog 3 #[.slice A0 len0 cap0,.slice A1 len1 cap1] W fun e w' => e = .returned (.bool true)∧ah W w' []:=by
  obtain ⟨ds,h,rfl,hm,hd⟩:=KY Tryz.underlying22 (by kernel_rfl) (by kernel_rfl) (by kernel_rfl) Tryz.underlying4 Tryz.underlying28 Tryz.underlying5 (by kernel_rfl) hf0;obtain ⟨es,h',rfl,hm',hd'⟩:=KY Tryz.underlying22 (by kernel_rfl) (by kernel_rfl) (by kernel_rfl) Tryz.underlying4 Tryz.underlying28 Tryz.underlying5 (by kernel_rfl) hf1;exact Nc hG h h' hm hm' hd hd'
 refine hwalk.mono fun e W' ⟨he,hc⟩ => ?_;have bel:=hc.Ql;subst he;exact ⟨_,rfl,_,_,_,[],_,[],hW',trodAll_mk1 (shut_bool Tryz.underlying4 _),(trodAll_cons_mk (Below.trod laidOut (by kernel_rfl) (of_decide_eq_true (by kernel_rfl)) k0 bel lt0) (trodAll_cons_mk (Below.trod laidOut (by kernel_rfl) (of_decide_eq_true (by kernel_rfl)) k1 bel lt1) trodAll_mk0)),rfl,bel.frame _,fun h => by cases h⟩
theorem over:Rows.topTraceRow.holds Tryz.pinned (OpenSpec.ofChange Rows.topTraceSpec) :=
 OpenClaim.holds_of_wide 3 Tryz.f3 rfl rfl rfl rfl rfl rfl rfl ⟨rfl,rfl,rfl,rfl,rfl⟩ rfl rfl rfl rfl rfl (by as_aux_lemma => kernel_rfl) Tryz.func3 agf
  (of_decide_eq_true (by as_aux_lemma => kernel_rfl)) (by unfold Func.isWrapper; first | (rw [if_pos (by decide +kernel)]; kernel_rfl) | (rw [if_neg (by decide +kernel)]; exact ⟨rfl,rfl⟩))
  (fun os started H enc _ => lifted os started H enc)
theorem proved:Rows.TopTraceCardSaid :=
 Claim7.holds_tied_plain_at .later [] [.data, .data, .data, .data, .data, .handle, .sentinel, .sentinel, .data, .pinned] true (true, "2b0fcf0991fc2e99c6d07552f611bf3747455663ca248adf9a61d4cf6323b281") true
  over (fun _ h => by cases h) (by as_aux_lemma => kernel_rfl) (fun _ h => by cases h) topTrace_row_tie rfl ⟨rfl,rfl⟩ (by as_aux_lemma => kernel_rfl) rfl
  (fun f fn hf hfn => by
    obtain rfl : f = 3 := Option.some.inj ((show Tryz.prog.funcNamed "astrolabe/astrolabetop.TopTrace" = some 3 by as_aux_lemma => kernel_rfl).symm.trans hf) |>.symm;obtain rfl:fn = Tryz.f3:=(Option.some.inj (Tryz.func3.symm.trans hfn)).symm
    exact ⟨by as_aux_lemma => kernel_rfl,fun j t ht => by
     rw [Tryz.params3] at ht;have hm:t∈[22]:=by simpa using Array.mem_of_getElem? ht
     have hall:([22].all fun u => !Tryz.prog.wantsStandIn u) = true:=by as_aux_lemma => kernel_rfl
     exact (show Tryz.prog.wantsStandIn t = false by simpa using List.all_eq_true.1 hall t hm)⟩)
  (by as_aux_lemma => kernel_rfl)
#print axioms proved
end Go.Proofs.YtnkmmaijigihpaaGreatDoor.topTrace
