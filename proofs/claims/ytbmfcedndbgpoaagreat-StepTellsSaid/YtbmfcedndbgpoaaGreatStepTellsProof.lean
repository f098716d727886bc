/- StepTells proved: whatever is handed in, the law answers true, and all arguments read as they did. (The frame follows the kit's own shell for such laws; the walk stands in the texts that are imported.) -/
import Derived.Test.YtbmfcedndbgpoaaGreatRows
import Derived.Test.YtbmfcedndbgpoaaGreatMS1
import Derived.WalkKit
import Derived.ProofKit
import Derived.OpenShut
import Derived.ShutString
import Derived.ChangeOld
import Derived.Below
namespace Go.Proofs.YtbmfcedndbgpoaaGreat.stepTells
open Go.ChangeShapes Go.WideShapes Go.ChangeAt Go.RowKit
open Go.ChangeMaps (open_string shut_string)
set_option linter.unusedVariables false

theorem own : ownKnob Tryz.prog.godebug = none := by kernel_rfl
theorem laidOut : laidOutB Tryz.prog = true := by kernel_rfl

set_option maxRecDepth 100000 in
theorem lifted (os : Os) (started : os.Started) (H : Type) (enc : TypeId × Value → H) :
    ReturnsInHanded {} Tryz.checked os 8 .any (Rows.stepTellsSpec.pre6 enc Tryz.prog Tryz.f8 Rows.stepTellsRow.domain false) (Rows.stepTellsSpec.post enc Tryz.prog Tryz.f8 false true false false) := by
  refine returnsInHanded_of_change (C := Tryz.checked) own started (by kernel_rfl) Tryz.func8
    (ChangeSpec.witness6 (enc := enc) (C := Tryz.checked) false ⟨#[], #[.agg #[.int .i32 0, .int .i32 0, .int .i32 0, .int .i32 0], .agg #[.int .i32 0, .int .i32 0, .int .i32 0, .int .i32 0, .int .i32 0, .int .i32 0, .int .i32 0, .int .i32 0, .int .i32 0]], []⟩ 8 (by kernel_rfl) (by kernel_rfl) (by kernel_rfl) (by kernel_rfl)) ?_
  intro W base args ds gs before hval0 hW hcnd _
  have hval : ∀ (j : Nat) t v, Tryz.f8.params[j]? = some t → args[j]? = some v → Value.okWide Tryz.prog W .any base t v := hval0
  have hW' := hW
  obtain ⟨p, q, hA0, hV, rfl, hfz, hnd⟩ := hW
  have hA : DataW.TrodAll enc Tryz.prog W 0 (fun _ => true) true Tryz.f8.params.toList args.toList ds p := hA0
  rw [Tryz.params8] at hA hval
  obtain ⟨v0, vs0, d0, ds0, p0, q0, hargs, rfl, rfl, h0, r0⟩ := trodAll_cons hA
  obtain ⟨v1, vs1, d1, ds1, p1, q1, rfl, rfl, rfl, h1, r1⟩ := trodAll_cons r0
  obtain ⟨rfl, rfl, rfl⟩ := trodAll_nil r1
  obtain rfl : args = #[v0, v1] := by cases args; simp_all
  obtain ⟨rfl, rfl⟩ := trodVars_none hV
  have k0 := h0
  have lt0 : ∀ x ∈ p0, x.block < W.heap.size := by obtain ⟨m, hm⟩ := k0; exact DataW.trod_lt m _ _ _ hm
  have k1 := h1
  have lt1 : ∀ x ∈ p1, x.block < W.heap.size := by obtain ⟨m, hm⟩ := k1; exact DataW.trod_lt m _ _ _ hm
  obtain ⟨cs0, rfl, hsz0⟩ := okWide_array Tryz.underlying28 (hval 0 28 v0 rfl rfl)
  obtain ⟨fuel0, hf0⟩ := h0
  have hcl0 : Tryz.prog.cellsOf 28 = 4 := by kernel_rfl
  rw [hcl0] at hsz0
  have hlv0 : leaves Tryz.prog 4 28 = [21, 21, 21, 21] := by kernel_rfl
  have L0 := trod_leaves (enc := enc) 4 28 (by kernel_rfl) fuel0 cs0.toList _ (by rw [hlv0]; simpa using hsz0) hf0
  rw [hlv0] at L0
  obtain ⟨c0_0, e0_0, w0_0⟩ := leaf_int Tryz.underlying21 (L0 0 _ rfl)
  obtain ⟨c0_1, e0_1, w0_1⟩ := leaf_int Tryz.underlying21 (L0 1 _ rfl)
  obtain ⟨c0_2, e0_2, w0_2⟩ := leaf_int Tryz.underlying21 (L0 2 _ rfl)
  obtain ⟨c0_3, e0_3, w0_3⟩ := leaf_int Tryz.underlying21 (L0 3 _ rfl)
  obtain rfl : cs0 = #[.int .i32 c0_0, .int .i32 c0_1, .int .i32 c0_2, .int .i32 c0_3] := array_of (vs := [.int .i32 c0_0, .int .i32 c0_1, .int .i32 c0_2, .int .i32 c0_3]) hsz0 (fun j hj => by
    match j, hj with
    | 0, _ => exact e0_0
    | 1, _ => exact e0_1
    | 2, _ => exact e0_2
    | 3, _ => exact e0_3
    )
  obtain ⟨cs1, rfl, hsz1⟩ := okWide_struct Tryz.underlying41 (hval 1 41 v1 rfl rfl)
  obtain ⟨fuel1, hf1⟩ := h1
  have hcl1 : Tryz.prog.cellsOf 41 = 9 := by kernel_rfl
  rw [hcl1] at hsz1
  have hlv1 : leaves Tryz.prog 10 41 = [21, 21, 21, 21, 21, 21, 21, 21, 21] := by kernel_rfl
  have L1 := trod_leaves (enc := enc) 10 41 (by kernel_rfl) fuel1 cs1.toList _ (by rw [hlv1]; simpa using hsz1) hf1
  rw [hlv1] at L1
  obtain ⟨c1_0, e1_0, w1_0⟩ := leaf_int Tryz.underlying21 (L1 0 _ rfl)
  obtain ⟨c1_1, e1_1, w1_1⟩ := leaf_int Tryz.underlying21 (L1 1 _ rfl)
  obtain ⟨c1_2, e1_2, w1_2⟩ := leaf_int Tryz.underlying21 (L1 2 _ rfl)
  obtain ⟨c1_3, e1_3, w1_3⟩ := leaf_int Tryz.underlying21 (L1 3 _ rfl)
  obtain ⟨c1_4, e1_4, w1_4⟩ := leaf_int Tryz.underlying21 (L1 4 _ rfl)
  obtain ⟨c1_5, e1_5, w1_5⟩ := leaf_int Tryz.underlying21 (L1 5 _ rfl)
  obtain ⟨c1_6, e1_6, w1_6⟩ := leaf_int Tryz.underlying21 (L1 6 _ rfl)
  obtain ⟨c1_7, e1_7, w1_7⟩ := leaf_int Tryz.underlying21 (L1 7 _ rfl)
  obtain ⟨c1_8, e1_8, w1_8⟩ := leaf_int Tryz.underlying21 (L1 8 _ rfl)
  obtain rfl : cs1 = #[.int .i32 c1_0, .int .i32 c1_1, .int .i32 c1_2, .int .i32 c1_3, .int .i32 c1_4, .int .i32 c1_5, .int .i32 c1_6, .int .i32 c1_7, .int .i32 c1_8] := array_of (vs := [.int .i32 c1_0, .int .i32 c1_1, .int .i32 c1_2, .int .i32 c1_3, .int .i32 c1_4, .int .i32 c1_5, .int .i32 c1_6, .int .i32 c1_7, .int .i32 c1_8]) hsz1 (fun j hj => by
    match j, hj with
    | 0, _ => exact e1_0
    | 1, _ => exact e1_1
    | 2, _ => exact e1_2
    | 3, _ => exact e1_3
    | 4, _ => exact e1_4
    | 5, _ => exact e1_5
    | 6, _ => exact e1_6
    | 7, _ => exact e1_7
    | 8, _ => exact e1_8
    )
  clear hA0 hval0
  have hwalk : Calls Tryz.prog 8 #[.agg #[.int .i32 c0_0, .int .i32 c0_1, .int .i32 c0_2, .int .i32 c0_3], .agg #[.int .i32 c1_0, .int .i32 c1_1, .int .i32 c1_2, .int .i32 c1_3, .int .i32 c1_4, .int .i32 c1_5, .int .i32 c1_6, .int .i32 c1_7, .int .i32 c1_8]] W fun e w' => e = .returned (.bool true) ∧ Chg W w' [] := Xi.stepTells_calls ⟨c0_0, bounds_i32 w0_0⟩ ⟨c0_1, bounds_i32 w0_1⟩ ⟨c0_2, bounds_i32 w0_2⟩ ⟨c0_3, bounds_i32 w0_3⟩ ⟨c1_0, bounds_i32 w1_0⟩ ⟨c1_1, bounds_i32 w1_1⟩ ⟨c1_2, bounds_i32 w1_2⟩ ⟨c1_3, bounds_i32 w1_3⟩ ⟨c1_4, bounds_i32 w1_4⟩ ⟨c1_5, bounds_i32 w1_5⟩ ⟨c1_6, bounds_i32 w1_6⟩ ⟨c1_7, bounds_i32 w1_7⟩ ⟨c1_8, bounds_i32 w1_8⟩ W
  refine hwalk.mono fun e W' ⟨he, hc⟩ => ?_
  have bel := hc.to_below
  subst he
  exact ⟨_, rfl, _, _, _, [], _, [], hW', trodAll_mk1 (shut_bool Tryz.underlying4 _), (trodAll_cons_mk (Below.trod laidOut (by kernel_rfl) (of_decide_eq_true (by kernel_rfl)) k0 bel lt0) (trodAll_cons_mk (Below.trod laidOut (by kernel_rfl) (of_decide_eq_true (by kernel_rfl)) k1 bel lt1) trodAll_mk0)), rfl, bel.frame _, fun h => by cases h⟩

theorem over : Rows.stepTellsRow.holds Tryz.pinned (OpenSpec.ofChange Rows.stepTellsSpec) :=
  OpenClaim.holds_of_wide 8 Tryz.f8 rfl rfl rfl rfl rfl rfl rfl ⟨rfl, rfl, rfl, rfl, rfl⟩ rfl rfl rfl rfl rfl (by kernel_rfl) Tryz.func8 (by kernel_rfl)
    (of_decide_eq_true (by kernel_rfl)) (by unfold Func.isWrapper; first | (rw [if_pos (by decide +kernel)]; kernel_rfl) | (rw [if_neg (by decide +kernel)]; exact ⟨rfl, rfl⟩))
    (fun os started H enc _ => lifted os started H enc)

/-- The statement. -/
theorem proved : Rows.StepTellsSaid := over
#print axioms proved
end Go.Proofs.YtbmfcedndbgpoaaGreat.stepTells
