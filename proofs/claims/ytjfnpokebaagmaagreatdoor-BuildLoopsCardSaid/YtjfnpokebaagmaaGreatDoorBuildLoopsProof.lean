/- BuildLoops proved: whatever is handed in, the law answers true, and all arguments read as they did. (The frame follows the kit's own shell for such laws; the walk stands in the texts that are imported.) -/
import Derived.Test.YtjfnpokebaagmaaGreatDoorRows
import Derived.Test.YtjfnpokebaagmaaGreatDoorLoopsO
import Derived.Test.YtjfnpokebaagmaaGreatDoorOpen
import Derived.WalkKit
import Derived.ProofKit
import Derived.OpenShut
import Derived.ShutString
import Derived.ChangeOld
import Derived.Below
import Derived.LaidMore
import Derived.LaidHandle
import Derived.Lay
import Derived.MakeChecks
import Derived.Stop.Joined
import Derived.Lib.LaidTab
import Derived.SevenTiedAt
import Derived.Test.YtjfnpokebaagmaaGreatDoorCards
import Derived.Test.YtjfnpokebaagmaaGreatDoorTie
namespace Go.Proofs.YtjfnpokebaagmaaGreatDoor.buildLoops
open Go.ChangeShapes Go.WideShapes Go.ChangeAt Go.RowKit
open Go.ChangeMaps (open_string shut_string)
set_option linter.unusedVariables false
theorem own : ownKnob Tryz.prog.godebug = none := by kernel_rfl
theorem laidOut : laidOutB Tryz.prog = true := by kernel_rfl
set_option maxRecDepth 100000 in
theorem lifted (os : Os) (started : os.Started) (H : Type) (enc : TypeId × Value → H) :
 ReturnsInHanded {} Tryz.checked os 4 .any (fun w args => (Rows.buildLoopsSpec.pre enc Tryz.prog Tryz.f4 [] false w args ∧ laidMetH Tryz.prog Rows.buildLoopsRow.laid w) ∧ sizedMet enc Tryz.prog Tryz.f4 (OpenSpec.ofChange Rows.buildLoopsSpec) false w args) (Rows.buildLoopsSpec.post enc Tryz.prog Tryz.f4 false true false false) := by
 refine returns_and_shaped (C := Tryz.checked) (X := fun w _ => laidMetH Tryz.prog Rows.buildLoopsRow.laid w) (fun _ _ _ hh h => h.of_heap hh) own started (by kernel_rfl) Tryz.func4
  (ChangeSpec.witness_shaped (enc := enc) (C := Tryz.checked) (os := os) (X := fun w _ => laidMetH Tryz.prog Rows.buildLoopsRow.laid w) false (laidW os) #[.int .u8 0, .int .u8 0, .int .i32 0] 8 (laidW_os _) (World.shaped_of_ZipB (by kernel_rfl) (by kernel_rfl)) (by kernel_rfl) (by kernel_rfl) (by kernel_rfl)
    (laidMetH_of_parts (by rw [show (Rows.buildLoopsRow.laid.filter fun x => x.2.handleName?.isNone) = plainL by kernel_rfl]; exact (laidW_met os).of_heap (by simp [World.memory, World.forCall, Input.heap])) (by kernel_rfl))) ?_
 intro W base args ds gs before hval0 hW hcnd _ hLH hsh _
 have hE : ErT W := ert_of_laid (by kernel_rfl) hLH
 have hLP : laidMet Tryz.prog plainL W := by
  have h := hLH.1
  rwa [show (Rows.buildLoopsRow.laid.filter fun x => x.2.handleName?.isNone) = plainL by kernel_rfl] at h
 have hct : CTab W := ctab_of_plain hLP
 have hgl : 1 < W.heap.size := World.block_lt_of_cell? _ _ (hct.cell (g := 1) (by kernel_rfl) 0 (by decide))
 have hval : ∀ (j : Nat) t v, Tryz.f4.params[j]? = some t → args[j]? = some v → Value.okWide Tryz.prog W .any base t v := hval0
 have hW' := hW
 obtain ⟨p, q, hA0, hV, rfl, hfz, hnd⟩ := hW
 have hA : DataW.TrodAll enc Tryz.prog W 0 (fun _ => true) true Tryz.f4.params.toList args.toList ds p := hA0
 rw [Tryz.params4] at hA hval
 obtain ⟨v0, vs0, d0, ds0, p0, q0, hargs, rfl, rfl, h0, r0⟩ := trodAll_cons hA
 obtain ⟨v1, vs1, d1, ds1, p1, q1, rfl, rfl, rfl, h1, r1⟩ := trodAll_cons r0
 obtain ⟨v2, vs2, d2, ds2, p2, q2, rfl, rfl, rfl, h2, r2⟩ := trodAll_cons r1
 obtain ⟨rfl, rfl, rfl⟩ := trodAll_nil r2
 obtain rfl : args = #[v0, v1, v2] := by cases args; simp_all
 obtain ⟨rfl, rfl⟩ := trodVars_none hV
 have k0 := h0
 have lt0 : ∀ x ∈ p0, x.block < W.heap.size := by obtain ⟨m, hm⟩ := k0; exact DataW.trod_lt m _ _ _ hm
 have k1 := h1
 have lt1 : ∀ x ∈ p1, x.block < W.heap.size := by obtain ⟨m, hm⟩ := k1; exact DataW.trod_lt m _ _ _ hm
 have k2 := h2
 have lt2 : ∀ x ∈ p2, x.block < W.heap.size := by obtain ⟨m, hm⟩ := k2; exact DataW.trod_lt m _ _ _ hm
 obtain ⟨a0, rfl, rfl, rfl, w0⟩ := open_int Tryz.underlying5 (hval 0 5 v0 rfl rfl) h0
 have b0 := bounds_u8 w0
 obtain ⟨a1, rfl, rfl, rfl, w1⟩ := open_int Tryz.underlying5 (hval 1 5 v1 rfl rfl) h1
 have b1 := bounds_u8 w1
 obtain ⟨a2, rfl, rfl, rfl, w2⟩ := open_int Tryz.underlying21 (hval 2 21 v2 rfl rfl) h2
 have b2 := bounds_i32 w2
 clear hA0 hval0
 have hwalk : Calls Tryz.prog 4 #[.int .u8 a0, .int .u8 a1, .int .i32 a2] W fun e w' => e = .returned (.bool true) ∧ Chg W w' [] :=
  buildLoops_calls a0 a1 a2 W b0.1 b0.2 b1.1 b1.2 b2.1 b2.2 hE hct hgl
 refine hwalk.mono fun e W' ⟨he, hc⟩ => ?_
 have bel := hc.to_below
 subst he
 exact ⟨_, rfl, _, _, _, [], _, [], hW', trodAll_mk1 (shut_bool Tryz.underlying4 _), (trodAll_cons_mk (Below.trod laidOut (by kernel_rfl) (of_decide_eq_true (by kernel_rfl)) k0 bel lt0) (trodAll_cons_mk (Below.trod laidOut (by kernel_rfl) (of_decide_eq_true (by kernel_rfl)) k1 bel lt1) (trodAll_cons_mk (Below.trod laidOut (by kernel_rfl) (of_decide_eq_true (by kernel_rfl)) k2 bel lt2) trodAll_mk0))), rfl, bel.frame _, fun h => by cases h⟩
theorem over : Rows.buildLoopsRow.holds Tryz.pinned (OpenSpec.ofChange Rows.buildLoopsSpec) :=
 OpenClaim.holds_of_wide 4 Tryz.f4 rfl rfl rfl rfl rfl rfl rfl ⟨rfl, rfl, rfl, rfl, rfl⟩ rfl rfl rfl rfl rfl (by kernel_rfl) Tryz.func4 (by kernel_rfl)
  (of_decide_eq_true (by kernel_rfl)) (by unfold Func.isWrapper; first | (rw [if_pos (by decide +kernel)]; kernel_rfl) | (rw [if_neg (by decide +kernel)]; exact ⟨rfl, rfl⟩))
  (fun os started H enc _ => lifted os started H enc)
theorem proved : Rows.BuildLoopsCardSaid :=
 Claim7.holds_tied_plain_at .later [] [.data, .handle, .data, .pinned] true (true, "d6ec8c28868f4275819a10d6f17fda66c255fd56bfdbc8e7924b07d22204b3d7") true
  over (fun _ h => by cases h) (by kernel_rfl) (fun _ h => by cases h) buildLoops_row_tie rfl ⟨rfl, rfl⟩ (by kernel_rfl) rfl
  (fun f fn hf hfn => by
    obtain rfl : f = 4 := Option.some.inj ((show Tryz.prog.funcNamed "astrolabe/astrolabelaw21.BuildLoops" = some 4 by kernel_rfl).symm.trans hf) |>.symm
    obtain rfl : fn = Tryz.f4 := (Option.some.inj (Tryz.func4.symm.trans hfn)).symm
    exact ⟨by kernel_rfl, fun j t ht => by
     rw [Tryz.params4] at ht
     have hm : t ∈ [5, 21] := by simpa using Array.mem_of_getElem? ht
     have hall : ([5, 21].all fun u => !Tryz.prog.wantsStandIn u) = true := by kernel_rfl
     exact (show Tryz.prog.wantsStandIn t = false by simpa using List.all_eq_true.1 hall t hm)⟩)
  (by kernel_rfl)
#print axioms proved
end Go.Proofs.YtjfnpokebaagmaaGreatDoor.buildLoops
