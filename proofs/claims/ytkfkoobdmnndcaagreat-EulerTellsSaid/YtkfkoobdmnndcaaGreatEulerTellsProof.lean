/- EulerTells proved: whatever is handed in, the law answers true, and all arguments read as they did. (The frame follows the kit's own shell for such laws; the walk stands in the texts that are imported.) -/
import Derived.Test.YtkfkoobdmnndcaaGreatRows
import Derived.Test.YtkfkoobdmnndcaaGreatRunK
import Derived.Test.YtkfkoobdmnndcaaGreatOpen
import Derived.WalkKit
import Derived.ProofKit
import Derived.OpenShut
import Derived.ShutString
import Derived.ChangeOld
import Derived.Below
namespace Go.Proofs.YtkfkoobdmnndcaaGreat.eulerTells
open Go.ChangeShapes Go.WideShapes Go.ChangeAt Go.RowKit
open Go.ChangeMaps (open_string shut_string)
set_option linter.unusedVariables false

theorem own : ownKnob Tryz.prog.godebug = none := by kernel_rfl
theorem laidOut : laidOutB Tryz.prog = true := by kernel_rfl

set_option maxRecDepth 100000 in
theorem lifted (os : Os) (started : os.Started) (H : Type) (enc : TypeId × Value → H) :
    ReturnsInHanded {} Tryz.checked os 4 .any (Rows.eulerTellsSpec.pre6 enc Tryz.prog Tryz.f4 Rows.eulerTellsRow.domain false) (Rows.eulerTellsSpec.post enc Tryz.prog Tryz.f4 false true false false) := by
  refine returnsInHanded_of_change (C := Tryz.checked) own started (by kernel_rfl) Tryz.func4
    (ChangeSpec.witness6 (enc := enc) (C := Tryz.checked) false ⟨#[], #[.agg #[.int .i32 0, .int .i32 0, .int .i32 0, .int .i32 0]], []⟩ 8 (by kernel_rfl) (by kernel_rfl) (by kernel_rfl) (by kernel_rfl)) ?_
  intro W base args ds gs before hval0 hW hcnd _
  have hval : ∀ (j : Nat) t v, Tryz.f4.params[j]? = some t → args[j]? = some v → Value.okWide Tryz.prog W .any base t v := hval0
  have hW' := hW
  obtain ⟨p, q, hA0, hV, rfl, hfz, hnd⟩ := hW
  have hA : DataW.TrodAll enc Tryz.prog W 0 (fun _ => true) true Tryz.f4.params.toList args.toList ds p := hA0
  rw [Tryz.params4] at hA hval
  obtain ⟨v0, vs0, d0, ds0, p0, q0, hargs, rfl, rfl, h0, r0⟩ := trodAll_cons hA
  obtain ⟨rfl, rfl, rfl⟩ := trodAll_nil r0
  obtain rfl : args = #[v0] := by cases args; simp_all
  obtain ⟨rfl, rfl⟩ := trodVars_none hV
  have k0 := h0
  have lt0 : ∀ x ∈ p0, x.block < W.heap.size := by obtain ⟨m, hm⟩ := k0; exact DataW.trod_lt m _ _ _ hm
  obtain ⟨cs0, rfl, hsz0⟩ := okWide_array Tryz.underlying28 (hval 0 28 v0 rfl rfl)
  obtain ⟨fuel0, hf0⟩ := h0
  have hcl0 : Tryz.prog.cellsOf 28 = 4 := by kernel_rfl
  rw [hcl0] at hsz0
  have hlv0 : leaves Tryz.prog 4 28 = [21, 21, 21, 21] := by kernel_rfl
  have L0 := trod_leaves (enc := enc) 4 28 (by kernel_rfl) fuel0 cs0.toList _ (by rw [hlv0]; simpa using hsz0) hf0
  rw [hlv0] at L0
  obtain ⟨c0_0, e0_0, w0_0⟩ := leaf_int Tryz.underlying21 (L0 0 _ rfl)
  obtain ⟨c0_1, e0_1, w0_1⟩ := leaf_int Tryz.underlying21 (L0 1 _ rfl)
  obtain ⟨c0_2, e0_2, w0_2⟩ := leaf_int Tryz.underlying21 (L0 2 _ rfl)
  obtain ⟨c0_3, e0_3, w0_3⟩ := leaf_int Tryz.underlying21 (L0 3 _ rfl)
  obtain rfl : cs0 = #[.int .i32 c0_0, .int .i32 c0_1, .int .i32 c0_2, .int .i32 c0_3] := array_of (vs := [.int .i32 c0_0, .int .i32 c0_1, .int .i32 c0_2, .int .i32 c0_3]) hsz0 (fun j hj => by
    match j, hj with
    | 0, _ => exact e0_0
    | 1, _ => exact e0_1
    | 2, _ => exact e0_2
    | 3, _ => exact e0_3
    )
  clear hA0 hval0
  have hwalk : Calls Tryz.prog 4 #[.agg #[.int .i32 c0_0, .int .i32 c0_1, .int .i32 c0_2, .int .i32 c0_3]] W fun e w' => e = .returned (.bool true) ∧ Chg W w' [] := Xi.eulerTells_calls ⟨c0_0, bounds_i32 w0_0⟩ ⟨c0_1, bounds_i32 w0_1⟩ ⟨c0_2, bounds_i32 w0_2⟩ ⟨c0_3, bounds_i32 w0_3⟩ W
  refine hwalk.mono fun e W' ⟨he, hc⟩ => ?_
  have bel := hc.to_below
  subst he
  exact ⟨_, rfl, _, _, _, [], _, [], hW', trodAll_mk1 (shut_bool Tryz.underlying4 _), (trodAll_cons_mk (Below.trod laidOut (by kernel_rfl) (of_decide_eq_true (by kernel_rfl)) k0 bel lt0) trodAll_mk0), rfl, bel.frame _, fun h => by cases h⟩

theorem over : Rows.eulerTellsRow.holds Tryz.pinned (OpenSpec.ofChange Rows.eulerTellsSpec) :=
  OpenClaim.holds_of_wide 4 Tryz.f4 rfl rfl rfl rfl rfl rfl rfl ⟨rfl, rfl, rfl, rfl, rfl⟩ rfl rfl rfl rfl rfl (by kernel_rfl) Tryz.func4 (by kernel_rfl)
    (of_decide_eq_true (by kernel_rfl)) (by unfold Func.isWrapper; first | (rw [if_pos (by decide +kernel)]; kernel_rfl) | (rw [if_neg (by decide +kernel)]; exact ⟨rfl, rfl⟩))
    (fun os started H enc _ => lifted os started H enc)

/-- The statement. -/
theorem proved : Rows.EulerTellsSaid := over
#print axioms proved
end Go.Proofs.YtkfkoobdmnndcaaGreat.eulerTells
