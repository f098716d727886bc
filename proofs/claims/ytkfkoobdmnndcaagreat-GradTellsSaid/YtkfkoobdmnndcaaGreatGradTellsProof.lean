/- GradTells proved: whatever is handed in, the law answers true, and all arguments read as they did. (The frame follows the kit's own shell for such laws; the walk stands in the texts that are imported.) -/
import Derived.Test.YtkfkoobdmnndcaaGreatRows
import Derived.Test.YtkfkoobdmnndcaaGreatRunI
import Derived.Test.YtkfkoobdmnndcaaGreatOpen
import Derived.WalkKit
import Derived.ProofKit
import Derived.OpenShut
import Derived.ShutString
import Derived.ChangeOld
import Derived.Below
namespace Go.Proofs.YtkfkoobdmnndcaaGreat.gradTells
open Go.ChangeShapes Go.WideShapes Go.ChangeAt Go.RowKit
open Go.ChangeMaps (open_string shut_string)
set_option linter.unusedVariables false

theorem own : ownKnob Tryz.prog.godebug = none := by kernel_rfl
theorem laidOut : laidOutB Tryz.prog = true := by kernel_rfl

set_option maxRecDepth 100000 in
theorem lifted (os : Os) (started : os.Started) (H : Type) (enc : TypeId × Value → H) :
    ReturnsInHanded {} Tryz.checked os 5 .any (Rows.gradTellsSpec.pre6 enc Tryz.prog Tryz.f5 Rows.gradTellsRow.domain false) (Rows.gradTellsSpec.post enc Tryz.prog Tryz.f5 false true false false) := by
  refine returnsInHanded_of_change (C := Tryz.checked) own started (by kernel_rfl) Tryz.func5
    (ChangeSpec.witness6 (enc := enc) (C := Tryz.checked) false ⟨#[], #[.agg #[.int .i32 0, .int .i32 0, .int .i32 0, .int .i32 0], .agg #[.int .i32 0, .int .i32 0, .int .i32 0], .agg #[.int .i32 0, .int .i32 0, .int .i32 0]], []⟩ 8 (by kernel_rfl) (by kernel_rfl) (by kernel_rfl) (by kernel_rfl)) ?_
  intro W base args ds gs before hval0 hW hcnd _
  have hval : ∀ (j : Nat) t v, Tryz.f5.params[j]? = some t → args[j]? = some v → Value.okWide Tryz.prog W .any base t v := hval0
  have hW' := hW
  obtain ⟨p, q, hA0, hV, rfl, hfz, hnd⟩ := hW
  have hA : DataW.TrodAll enc Tryz.prog W 0 (fun _ => true) true Tryz.f5.params.toList args.toList ds p := hA0
  rw [Tryz.params5] at hA hval
  obtain ⟨v0, vs0, d0, ds0, p0, q0, hargs, rfl, rfl, h0, r0⟩ := trodAll_cons hA
  obtain ⟨v1, vs1, d1, ds1, p1, q1, rfl, rfl, rfl, h1, r1⟩ := trodAll_cons r0
  obtain ⟨v2, vs2, d2, ds2, p2, q2, rfl, rfl, rfl, h2, r2⟩ := trodAll_cons r1
  obtain ⟨rfl, rfl, rfl⟩ := trodAll_nil r2
  obtain rfl : args = #[v0, v1, v2] := by cases args; simp_all
  obtain ⟨rfl, rfl⟩ := trodVars_none hV
  have k0 := h0
  have lt0 : ∀ x ∈ p0, x.block < W.heap.size := by obtain ⟨m, hm⟩ := k0; exact DataW.trod_lt m _ _ _ hm
  have k1 := h1
  have lt1 : ∀ x ∈ p1, x.block < W.heap.size := by obtain ⟨m, hm⟩ := k1; exact DataW.trod_lt m _ _ _ hm
  have k2 := h2
  have lt2 : ∀ x ∈ p2, x.block < W.heap.size := by obtain ⟨m, hm⟩ := k2; exact DataW.trod_lt m _ _ _ hm
  obtain ⟨cs0, rfl, hsz0⟩ := okWide_array Tryz.underlying28 (hval 0 28 v0 rfl rfl)
  obtain ⟨fuel0, hf0⟩ := h0
  have hcl0 : Tryz.prog.cellsOf 28 = 4 := by kernel_rfl
  rw [hcl0] at hsz0
  have hlv0 : leaves Tryz.prog 4 28 = [21, 21, 21, 21] := by kernel_rfl
  have L0 := trod_leaves (enc := enc) 4 28 (by kernel_rfl) fuel0 cs0.toList _ (by rw [hlv0]; simpa using hsz0) hf0
  rw [hlv0] at L0
  obtain ⟨c0_0, e0_0, w0_0⟩ := leaf_int Tryz.underlying21 (L0 0 _ rfl)
  obtain ⟨c0_1, e0_1, w0_1⟩ := leaf_int Tryz.underlying21 (L0 1 _ rfl)
  obtain ⟨c0_2, e0_2, w0_2⟩ := leaf_int Tryz.underlying21 (L0 2 _ rfl)
  obtain ⟨c0_3, e0_3, w0_3⟩ := leaf_int Tryz.underlying21 (L0 3 _ rfl)
  obtain rfl : cs0 = #[.int .i32 c0_0, .int .i32 c0_1, .int .i32 c0_2, .int .i32 c0_3] := array_of (vs := [.int .i32 c0_0, .int .i32 c0_1, .int .i32 c0_2, .int .i32 c0_3]) hsz0 (fun j hj => by
    match j, hj with
    | 0, _ => exact e0_0
    | 1, _ => exact e0_1
    | 2, _ => exact e0_2
    | 3, _ => exact e0_3
    )
  obtain ⟨cs1, rfl, hsz1⟩ := okWide_array Tryz.underlying22 (hval 1 22 v1 rfl rfl)
  obtain ⟨fuel1, hf1⟩ := h1
  have hcl1 : Tryz.prog.cellsOf 22 = 3 := by kernel_rfl
  rw [hcl1] at hsz1
  have hlv1 : leaves Tryz.prog 4 22 = [21, 21, 21] := by kernel_rfl
  have L1 := trod_leaves (enc := enc) 4 22 (by kernel_rfl) fuel1 cs1.toList _ (by rw [hlv1]; simpa using hsz1) hf1
  rw [hlv1] at L1
  obtain ⟨c1_0, e1_0, w1_0⟩ := leaf_int Tryz.underlying21 (L1 0 _ rfl)
  obtain ⟨c1_1, e1_1, w1_1⟩ := leaf_int Tryz.underlying21 (L1 1 _ rfl)
  obtain ⟨c1_2, e1_2, w1_2⟩ := leaf_int Tryz.underlying21 (L1 2 _ rfl)
  obtain rfl : cs1 = #[.int .i32 c1_0, .int .i32 c1_1, .int .i32 c1_2] := array_of (vs := [.int .i32 c1_0, .int .i32 c1_1, .int .i32 c1_2]) hsz1 (fun j hj => by
    match j, hj with
    | 0, _ => exact e1_0
    | 1, _ => exact e1_1
    | 2, _ => exact e1_2
    )
  obtain ⟨cs2, rfl, hsz2⟩ := okWide_array Tryz.underlying22 (hval 2 22 v2 rfl rfl)
  obtain ⟨fuel2, hf2⟩ := h2
  have hcl2 : Tryz.prog.cellsOf 22 = 3 := by kernel_rfl
  rw [hcl2] at hsz2
  have hlv2 : leaves Tryz.prog 4 22 = [21, 21, 21] := by kernel_rfl
  have L2 := trod_leaves (enc := enc) 4 22 (by kernel_rfl) fuel2 cs2.toList _ (by rw [hlv2]; simpa using hsz2) hf2
  rw [hlv2] at L2
  obtain ⟨c2_0, e2_0, w2_0⟩ := leaf_int Tryz.underlying21 (L2 0 _ rfl)
  obtain ⟨c2_1, e2_1, w2_1⟩ := leaf_int Tryz.underlying21 (L2 1 _ rfl)
  obtain ⟨c2_2, e2_2, w2_2⟩ := leaf_int Tryz.underlying21 (L2 2 _ rfl)
  obtain rfl : cs2 = #[.int .i32 c2_0, .int .i32 c2_1, .int .i32 c2_2] := array_of (vs := [.int .i32 c2_0, .int .i32 c2_1, .int .i32 c2_2]) hsz2 (fun j hj => by
    match j, hj with
    | 0, _ => exact e2_0
    | 1, _ => exact e2_1
    | 2, _ => exact e2_2
    )
  clear hA0 hval0
  have hwalk : Calls Tryz.prog 5 #[.agg #[.int .i32 c0_0, .int .i32 c0_1, .int .i32 c0_2, .int .i32 c0_3], .agg #[.int .i32 c1_0, .int .i32 c1_1, .int .i32 c1_2], .agg #[.int .i32 c2_0, .int .i32 c2_1, .int .i32 c2_2]] W fun e w' => e = .returned (.bool true) ∧ Chg W w' [] := Xi.gradTells_calls ⟨c0_0, bounds_i32 w0_0⟩ ⟨c0_1, bounds_i32 w0_1⟩ ⟨c0_2, bounds_i32 w0_2⟩ ⟨c0_3, bounds_i32 w0_3⟩ ⟨c1_0, bounds_i32 w1_0⟩ ⟨c1_1, bounds_i32 w1_1⟩ ⟨c1_2, bounds_i32 w1_2⟩ ⟨c2_0, bounds_i32 w2_0⟩ ⟨c2_1, bounds_i32 w2_1⟩ ⟨c2_2, bounds_i32 w2_2⟩ W
  refine hwalk.mono fun e W' ⟨he, hc⟩ => ?_
  have bel := hc.to_below
  subst he
  exact ⟨_, rfl, _, _, _, [], _, [], hW', trodAll_mk1 (shut_bool Tryz.underlying4 _), (trodAll_cons_mk (Below.trod laidOut (by kernel_rfl) (of_decide_eq_true (by kernel_rfl)) k0 bel lt0) (trodAll_cons_mk (Below.trod laidOut (by kernel_rfl) (of_decide_eq_true (by kernel_rfl)) k1 bel lt1) (trodAll_cons_mk (Below.trod laidOut (by kernel_rfl) (of_decide_eq_true (by kernel_rfl)) k2 bel lt2) trodAll_mk0))), rfl, bel.frame _, fun h => by cases h⟩

theorem over : Rows.gradTellsRow.holds Tryz.pinned (OpenSpec.ofChange Rows.gradTellsSpec) :=
  OpenClaim.holds_of_wide 5 Tryz.f5 rfl rfl rfl rfl rfl rfl rfl ⟨rfl, rfl, rfl, rfl, rfl⟩ rfl rfl rfl rfl rfl (by kernel_rfl) Tryz.func5 (by kernel_rfl)
    (of_decide_eq_true (by kernel_rfl)) (by unfold Func.isWrapper; first | (rw [if_pos (by decide +kernel)]; kernel_rfl) | (rw [if_neg (by decide +kernel)]; exact ⟨rfl, rfl⟩))
    (fun os started H enc _ => lifted os started H enc)

/-- The statement. -/
theorem proved : Rows.GradTellsSaid := over
#print axioms proved
end Go.Proofs.YtkfkoobdmnndcaaGreat.gradTells
