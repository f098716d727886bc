/- KquatRuns proved: whatever is handed in, the law answers true, and all arguments read as they did. (The frame follows the kit's own shell for such laws; the walk stands in the texts that are imported.) -/
import Derived.Test.YtakkofepcbkbkaaGreatDoorRows
import Derived.Test.YtakkofepcbkbkaaGreatDoorKquatA
import Derived.Test.YtakkofepcbkbkaaGreatDoorLaidK
import Derived.Test.YtakkofepcbkbkaaGreatDoorOpen
import Derived.WalkKit
import Derived.ProofKit
import Derived.OpenShut
import Derived.ShutString
import Derived.ChangeOld
import Derived.Below
import Derived.LaidMore
import Derived.LaidHandle
import Derived.Lay
import Derived.MakeChecks
import Derived.Stop.Joined
import Derived.Lib.LaidTab
import Derived.SevenTiedAt
import Derived.Test.YtakkofepcbkbkaaGreatDoorCards
import Derived.Test.YtakkofepcbkbkaaGreatDoorTie
namespace Go.Proofs.YtakkofepcbkbkaaGreatDoor.kquatRuns
open Go.ChangeShapes Go.WideShapes Go.ChangeAt Go.RowKit
open Go.ChangeMaps (open_string shut_string)
set_option linter.unusedVariables false
theorem own : ownKnob Tryz.prog.godebug = none := by kernel_rfl
theorem laidOut : laidOutB Tryz.prog = true := by kernel_rfl
set_option maxRecDepth 100000 in
theorem lifted (os : Os) (started : os.Started) (H : Type) (enc : TypeId × Value → H) :
 ReturnsInHanded {} Tryz.checked os 6 .any (fun w args => (Rows.kquatRunsSpec.pre enc Tryz.prog Tryz.f6 [] false w args ∧ laidMetH Tryz.prog Rows.kquatRunsRow.laid w) ∧ sizedMet enc Tryz.prog Tryz.f6 (OpenSpec.ofChange Rows.kquatRunsSpec) false w args) (Rows.kquatRunsSpec.post enc Tryz.prog Tryz.f6 false true false false) := by
 refine returns_and_shaped (C := Tryz.checked) (X := fun w _ => laidMetH Tryz.prog Rows.kquatRunsRow.laid w) (fun _ _ _ hh h => h.of_heap hh) own started (by kernel_rfl) Tryz.func6
  (ChangeSpec.witness_shaped (enc := enc) (C := Tryz.checked) (os := os) (X := fun w _ => laidMetH Tryz.prog Rows.kquatRunsRow.laid w) false (laidW os) #[.agg #[.int .i32 0, .int .i32 0, .int .i32 0, .int .i32 0], .agg #[.int .i32 0, .int .i32 0, .int .i32 0, .int .i32 0]] 8 (laidW_os _) (World.shaped_of_ZipB (by kernel_rfl) (by kernel_rfl)) (by kernel_rfl) (by kernel_rfl) (by kernel_rfl)
    (laidMetH_of_parts (by rw [show (Rows.kquatRunsRow.laid.filter fun x => x.2.handleName?.isNone) = plainL by kernel_rfl]; exact (laidW_met os).of_heap (by simp [World.memory, World.forCall, Input.heap])) (by kernel_rfl))) ?_
 intro W base args ds gs before hval0 hW hcnd _ hLH hsh _
 have hG : Glo W := glo_of (by kernel_rfl) (by kernel_rfl) hLH hsh
 have hval : ∀ (j : Nat) t v, Tryz.f6.params[j]? = some t → args[j]? = some v → Value.okWide Tryz.prog W .any base t v := hval0
 have hW' := hW
 obtain ⟨p, q, hA0, hV, rfl, hfz, hnd⟩ := hW
 have hA : DataW.TrodAll enc Tryz.prog W 0 (fun _ => true) true Tryz.f6.params.toList args.toList ds p := hA0
 rw [Tryz.params6] at hA hval
 obtain ⟨v0, vs0, d0, ds0, p0, q0, hargs, rfl, rfl, h0, r0⟩ := trodAll_cons hA
 obtain ⟨v1, vs1, d1, ds1, p1, q1, rfl, rfl, rfl, h1, r1⟩ := trodAll_cons r0
 obtain ⟨rfl, rfl, rfl⟩ := trodAll_nil r1
 obtain rfl : args = #[v0, v1] := by cases args; simp_all
 obtain ⟨rfl, rfl⟩ := trodVars_none hV
 have k0 := h0
 have lt0 : ∀ x ∈ p0, x.block < W.heap.size := by obtain ⟨m, hm⟩ := k0; exact DataW.trod_lt m _ _ _ hm
 have k1 := h1
 have lt1 : ∀ x ∈ p1, x.block < W.heap.size := by obtain ⟨m, hm⟩ := k1; exact DataW.trod_lt m _ _ _ hm
 obtain ⟨cs0, rfl, hsz0⟩ := okWide_array Tryz.underlying44 (hval 0 44 v0 rfl rfl)
 obtain ⟨fuel0, hf0⟩ := h0
 have hcl0 : Tryz.prog.cellsOf 44 = 4 := by kernel_rfl
 rw [hcl0] at hsz0
 have hlv0 : leaves Tryz.prog 2 44 = [21, 21, 21, 21] := by kernel_rfl
 have L0 := trod_leaves (enc := enc) 2 44 (by kernel_rfl) fuel0 cs0.toList _ (by rw [hlv0]; simpa using hsz0) hf0
 rw [hlv0] at L0
 obtain ⟨c0_0, e0_0, w0_0⟩ := leaf_int Tryz.underlying21 (L0 0 _ rfl)
 obtain ⟨c0_1, e0_1, w0_1⟩ := leaf_int Tryz.underlying21 (L0 1 _ rfl)
 obtain ⟨c0_2, e0_2, w0_2⟩ := leaf_int Tryz.underlying21 (L0 2 _ rfl)
 obtain ⟨c0_3, e0_3, w0_3⟩ := leaf_int Tryz.underlying21 (L0 3 _ rfl)
 obtain rfl : cs0 = #[.int .i32 c0_0, .int .i32 c0_1, .int .i32 c0_2, .int .i32 c0_3] := array_of (vs := [.int .i32 c0_0, .int .i32 c0_1, .int .i32 c0_2, .int .i32 c0_3]) hsz0 (fun j hj => by
  match j, hj with
  | 0, _ => exact e0_0
  | 1, _ => exact e0_1
  | 2, _ => exact e0_2
  | 3, _ => exact e0_3
  )
 obtain ⟨cs1, rfl, hsz1⟩ := okWide_array Tryz.underlying44 (hval 1 44 v1 rfl rfl)
 obtain ⟨fuel1, hf1⟩ := h1
 have hcl1 : Tryz.prog.cellsOf 44 = 4 := by kernel_rfl
 rw [hcl1] at hsz1
 have hlv1 : leaves Tryz.prog 2 44 = [21, 21, 21, 21] := by kernel_rfl
 have L1 := trod_leaves (enc := enc) 2 44 (by kernel_rfl) fuel1 cs1.toList _ (by rw [hlv1]; simpa using hsz1) hf1
 rw [hlv1] at L1
 obtain ⟨c1_0, e1_0, w1_0⟩ := leaf_int Tryz.underlying21 (L1 0 _ rfl)
 obtain ⟨c1_1, e1_1, w1_1⟩ := leaf_int Tryz.underlying21 (L1 1 _ rfl)
 obtain ⟨c1_2, e1_2, w1_2⟩ := leaf_int Tryz.underlying21 (L1 2 _ rfl)
 obtain ⟨c1_3, e1_3, w1_3⟩ := leaf_int Tryz.underlying21 (L1 3 _ rfl)
 obtain rfl : cs1 = #[.int .i32 c1_0, .int .i32 c1_1, .int .i32 c1_2, .int .i32 c1_3] := array_of (vs := [.int .i32 c1_0, .int .i32 c1_1, .int .i32 c1_2, .int .i32 c1_3]) hsz1 (fun j hj => by
  match j, hj with
  | 0, _ => exact e1_0
  | 1, _ => exact e1_1
  | 2, _ => exact e1_2
  | 3, _ => exact e1_3
  )
 clear hA0 hval0
 have hwalk : Calls Tryz.prog 6 #[.agg #[.int .i32 c0_0, .int .i32 c0_1, .int .i32 c0_2, .int .i32 c0_3], .agg #[.int .i32 c1_0, .int .i32 c1_1, .int .i32 c1_2, .int .i32 c1_3]] W fun e w' => e = .returned (.bool true) ∧ Chg W w' [] := kquatRuns_calls hG ⟨c0_0, bounds_i32 w0_0⟩ ⟨c0_1, bounds_i32 w0_1⟩ ⟨c0_2, bounds_i32 w0_2⟩ ⟨c0_3, bounds_i32 w0_3⟩ ⟨c1_0, bounds_i32 w1_0⟩ ⟨c1_1, bounds_i32 w1_1⟩ ⟨c1_2, bounds_i32 w1_2⟩ ⟨c1_3, bounds_i32 w1_3⟩
 refine hwalk.mono fun e W' ⟨he, hc⟩ => ?_
 have bel := hc.to_below
 subst he
 exact ⟨_, rfl, _, _, _, [], _, [], hW', trodAll_mk1 (shut_bool Tryz.underlying4 _), (trodAll_cons_mk (Below.trod laidOut (by kernel_rfl) (of_decide_eq_true (by kernel_rfl)) k0 bel lt0) (trodAll_cons_mk (Below.trod laidOut (by kernel_rfl) (of_decide_eq_true (by kernel_rfl)) k1 bel lt1) trodAll_mk0)), rfl, bel.frame _, fun h => by cases h⟩
set_option maxHeartbeats 100000000 in
theorem over : Rows.kquatRunsRow.holds Tryz.pinned (OpenSpec.ofChange Rows.kquatRunsSpec) :=
 OpenClaim.holds_of_wide 6 Tryz.f6 rfl rfl rfl rfl rfl rfl rfl ⟨rfl, rfl, rfl, rfl, rfl⟩ rfl rfl rfl rfl rfl (by as_aux_lemma => kernel_rfl) Tryz.func6 (by as_aux_lemma => kernel_rfl)
  (of_decide_eq_true (by as_aux_lemma => kernel_rfl)) (by unfold Func.isWrapper; first | (rw [if_pos (by decide +kernel)]; kernel_rfl) | (rw [if_neg (by decide +kernel)]; exact ⟨rfl, rfl⟩))
  (fun os started H enc _ => lifted os started H enc)
set_option maxHeartbeats 100000000 in
theorem proved : Rows.KquatRunsCardSaid :=
 Claim7.holds_tied_plain_at .later [] [.data, .data, .data, .data, .handle, .data, .pinned] true (true, "694f6d3380c7853b2dd9e9f70c67133b99f372b12a2b8aa4a64e76a82ea8597b") true
  over (fun _ h => by cases h) (by as_aux_lemma => kernel_rfl) (fun _ h => by cases h) kquatRuns_row_tie rfl ⟨rfl, rfl⟩ (by as_aux_lemma => kernel_rfl) rfl
  (fun f fn hf hfn => by
    obtain rfl : f = 6 := Option.some.inj ((show Tryz.prog.funcNamed "astrolabe/astrolabelaw29.KquatRuns" = some 6 by as_aux_lemma => kernel_rfl).symm.trans hf) |>.symm
    obtain rfl : fn = Tryz.f6 := (Option.some.inj (Tryz.func6.symm.trans hfn)).symm
    exact ⟨by as_aux_lemma => kernel_rfl, fun j t ht => by
     rw [Tryz.params6] at ht
     have hm : t ∈ [44] := by simpa using Array.mem_of_getElem? ht
     have hall : ([44].all fun u => !Tryz.prog.wantsStandIn u) = true := by as_aux_lemma => kernel_rfl
     exact (show Tryz.prog.wantsStandIn t = false by simpa using List.all_eq_true.1 hall t hm)⟩)
  (by as_aux_lemma => kernel_rfl)
#print axioms proved
end Go.Proofs.YtakkofepcbkbkaaGreatDoor.kquatRuns
