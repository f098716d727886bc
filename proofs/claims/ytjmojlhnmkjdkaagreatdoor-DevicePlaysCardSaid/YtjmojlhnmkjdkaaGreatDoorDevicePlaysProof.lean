/- DevicePlays proved: whatever is handed in, the law answers true, and all arguments read as they did. (The frame follows the kit's own shell for such laws; the walk stands in the texts that are imported.) -/
import Derived.Test.YtjmojlhnmkjdkaaGreatDoorDevPD
import Derived.Test.YtjmojlhnmkjdkaaGreatDoorFactsDPD
import Derived.Test.YtjmojlhnmkjdkaaGreatDoorLaidDPD
import Derived.ShutString
import Derived.Test.YtjmojlhnmkjdkaaGreatDoorCards
import Derived.Test.YtjmojlhnmkjdkaaGreatDoorTie
set_option maxHeartbeats 8000000
namespace Go.Proofs.YtjmojlhnmkjdkaaGreatDoor.devicePlays
open Go.ChangeShapes Go.WideShapes Go.ChangeAt Go.RowKit
open Go.ChangeMaps (open_string shut_string)
set_option linter.unusedVariables false
theorem own:ownKnob Tryz.prog.godebug = none:=by kernel_rfl
theorem laidOut:laidOutB Tryz.prog = true:=by kernel_rfl
set_option maxRecDepth 100000 in
theorem lifted (os:Os) (started:os.Started) (H:Type) (enc:TypeId × Value→H) :
 ReturnsInHanded {} Tryz.checked os 4 .any (fun w args => (Rows.devicePlaysSpec.pre enc Tryz.prog Tryz.f4 [] false w args∧laidMetH Tryz.prog Rows.devicePlaysRow.laid w)∧sizedMet enc Tryz.prog Tryz.f4 (OpenSpec.ofChange Rows.devicePlaysSpec) false w args) (Rows.devicePlaysSpec.post enc Tryz.prog Tryz.f4 false true false false):=by
 refine IX (C:=Tryz.checked) (X:=fun w _ => laidMetH Tryz.prog Rows.devicePlaysRow.laid w) (fun _ _ _ hh h => h.of_heap hh) own started (by kernel_rfl) Tryz.func4
  (ChangeSpec.witness_shaped (enc:=enc) (C:=Tryz.checked) (os:=os) (X:=fun w _ => laidMetH Tryz.prog Rows.devicePlaysRow.laid w) false (adX os) #[.slice none 0 0] 8 (akF _) (World.shaped_of_ZipB (by kernel_rfl) (by kernel_rfl)) (by kernel_rfl) (by kernel_rfl) (by kernel_rfl)
    (laidMetH_of_parts (by rw [show (Rows.devicePlaysRow.laid.filter fun x => x.2.handleName?.isNone) = lu by kernel_rfl]; exact (aho os).of_heap (by simp [World.memory,World.forCall,Input.heap])) (by kernel_rfl))) ?_
 intro W base args ds gs before hval0 hW hcnd _ hLH hsh _;have hG:oh W:=atm (by kernel_rfl) (by kernel_rfl) hLH hsh;have hval:∀ (j:Nat) t v,Tryz.f4.params[j]? = some t→args[j]? = some v→Value.okWide Tryz.prog W .any base t v:=hval0;have hW':=hW;obtain ⟨p,q,hA0,hV,rfl,hfz,hnd⟩:=hW;have hA:DataW.TrodAll enc Tryz.prog W 0 (fun _ => true) true Tryz.f4.params.toList args.toList ds p:=hA0;rw [Tryz.params4] at hA hval;obtain ⟨v0,vs0,d0,ds0,p0,q0,hargs,rfl,rfl,h0,r0⟩:=trodAll_cons hA;obtain ⟨rfl,rfl,rfl⟩:=trodAll_nil r0;obtain rfl:args = #[v0]:=by cases args; simp_all
 obtain ⟨rfl,rfl⟩:=trodVars_none hV;have k0:=h0;have lt0:∀ x∈p0,x.block < W.heap.size:=by obtain ⟨m,hm⟩:=k0; exact DataW.trod_lt m _ _ _ hm
 obtain ⟨A0,len0,cap0,rfl⟩:=okWide_slice Tryz.underlying39 (hval 0 39 v0 rfl rfl);obtain ⟨fuel0,hf0⟩:=h0;clear hA0 hval0
 have hwalk:Calls Tryz.prog 4 #[.slice A0 len0 cap0] W fun e w' => e = .returned (.bool true)∧ah W w' []:=by
  obtain ⟨ds,h,rfl,hm,hd⟩:=adU Tryz.underlying39 (by kernel_rfl) (by kernel_rfl) (by kernel_rfl) Tryz.underlying4 Tryz.underlying29 Tryz.underlying5 (by kernel_rfl) hf0;exact JV hG h hm hd
 refine hwalk.mono fun e W' ⟨he,hc⟩ => ?_;have bel:=hc.Uf;subst he;exact ⟨_,rfl,_,_,_,[],_,[],hW',trodAll_mk1 (shut_bool Tryz.underlying4 _),(trodAll_cons_mk (Below.trod laidOut (by kernel_rfl) (of_decide_eq_true (by kernel_rfl)) k0 bel lt0) trodAll_mk0),rfl,bel.frame _,fun h => by cases h⟩
theorem over:Rows.devicePlaysRow.holds Tryz.pinned (OpenSpec.ofChange Rows.devicePlaysSpec) :=
 OpenClaim.holds_of_wide 4 Tryz.f4 rfl rfl rfl rfl rfl rfl rfl ⟨rfl,rfl,rfl,rfl,rfl⟩ rfl rfl rfl rfl rfl (by as_aux_lemma => kernel_rfl) Tryz.func4 aoq
  (of_decide_eq_true (by as_aux_lemma => kernel_rfl)) (by unfold Func.isWrapper; first | (rw [if_pos (by decide +kernel)]; kernel_rfl) | (rw [if_neg (by decide +kernel)]; exact ⟨rfl,rfl⟩))
  (fun os started H enc _ => lifted os started H enc)
theorem proved:Rows.DevicePlaysCardSaid :=
 Claim7.holds_tied_plain_at .later [] [.data, .data, .data, .data, .data, .handle, .sentinel, .sentinel, .data, .pinned] true (true, "d0f717b1d3caf5a577419d9e074b0e2f6b3bf659a1199d5f179e8955cceed409") true
  over (fun _ h => by cases h) (by as_aux_lemma => kernel_rfl) (fun _ h => by cases h) devicePlays_row_tie rfl ⟨rfl,rfl⟩ (by as_aux_lemma => kernel_rfl) rfl
  (fun f fn hf hfn => by
    obtain rfl : f = 4 := Option.some.inj ((show Tryz.prog.funcNamed "astrolabe/astrolabelaw39.DevicePlays" = some 4 by as_aux_lemma => kernel_rfl).symm.trans hf) |>.symm;obtain rfl:fn = Tryz.f4:=(Option.some.inj (Tryz.func4.symm.trans hfn)).symm
    exact ⟨by as_aux_lemma => kernel_rfl,fun j t ht => by
     rw [Tryz.params4] at ht;have hm:t∈[39]:=by simpa using Array.mem_of_getElem? ht
     have hall:([39].all fun u => !Tryz.prog.wantsStandIn u) = true:=by as_aux_lemma => kernel_rfl
     exact (show Tryz.prog.wantsStandIn t = false by simpa using List.all_eq_true.1 hall t hm)⟩)
  (by as_aux_lemma => kernel_rfl)
#print axioms proved
end Go.Proofs.YtjmojlhnmkjdkaaGreatDoor.devicePlays
