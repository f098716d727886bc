/- ModelTells proved: whatever is handed in, the law answers true, and all arguments read as they did. (The frame follows the kit's own shell for such laws; the walk stands in the texts that are imported.) -/
import Derived.Test.YtihgijhjhmjolaaGreatDoorRows
import Derived.Test.YtihgijhjhmjolaaGreatDoorModelTab
import Derived.Test.YtihgijhjhmjolaaGreatDoorOpen
import Derived.WalkKit
import Derived.ProofKit
import Derived.OpenShut
import Derived.ShutString
import Derived.ChangeOld
import Derived.Below
import Derived.LaidMore
import Derived.LaidHandle
import Derived.MakeChecks
import Derived.Stop.Joined
import Derived.Lib.LaidTab
import Derived.SevenTiedAt
import Derived.Test.YtihgijhjhmjolaaGreatDoorCards
import Derived.Test.YtihgijhjhmjolaaGreatDoorTie
namespace Go.Proofs.YtihgijhjhmjolaaGreatDoor.modelTells
open Go.ChangeShapes Go.WideShapes Go.ChangeAt Go.RowKit
open Go.ChangeMaps (open_string shut_string)
set_option linter.unusedVariables false

theorem own : ownKnob Tryz.prog.godebug = none := by kernel_rfl
theorem laidOut : laidOutB Tryz.prog = true := by kernel_rfl

/-- The door's own heap meets the condition. -/
theorem door_met (os : Os) (args : Array Value) : laidMetH Tryz.prog Rows.modelTellsRow.laid ((World.doorLaid Tryz.prog 400 os).forCall (fun _ _ => 0) ⟨#[], args, []⟩).memory :=
  laidMetH_of_parts3 (fuel := 8) (laidMet_of_run' 8 (by kernel_rfl) (by kernel_rfl)) (by kernel_rfl) (by kernel_rfl)

set_option maxRecDepth 100000 in
theorem lifted (os : Os) (started : os.Started) (H : Type) (enc : TypeId × Value → H) :
    ReturnsInHanded {} Tryz.checked os 3 .any (fun w args => (Rows.modelTellsSpec.pre enc Tryz.prog Tryz.f3 [] false w args ∧ laidMetH Tryz.prog Rows.modelTellsRow.laid w) ∧ sizedMet enc Tryz.prog Tryz.f3 (OpenSpec.ofChange Rows.modelTellsSpec) false w args) (Rows.modelTellsSpec.post enc Tryz.prog Tryz.f3 false true false false) := by
  refine returnsInHanded_of_change_and (C := Tryz.checked) (X := fun w _ => laidMetH Tryz.prog Rows.modelTellsRow.laid w) (fun _ _ _ hh h => h.of_heap hh) own started (by kernel_rfl) Tryz.func3
    (ChangeSpec.witness_shaped (enc := enc) (C := Tryz.checked) (os := os) (X := fun w _ => laidMetH Tryz.prog Rows.modelTellsRow.laid w) false (World.doorLaid Tryz.prog 400 os) #[.agg #[.int .i32 0, .int .i32 0, .int .i32 0, .int .i32 0, .int .i64 0, .int .i64 0, .int .i64 0], .slice none 0 0, .int .i64 0] 8 rfl (World.shaped_of_RefB (by kernel_rfl) (by kernel_rfl)) (by kernel_rfl) (by kernel_rfl) (by kernel_rfl) (door_met os _)) ?_
  intro W base args ds gs before hval0 hW hcnd _ hLH _
  have hL : laidMet Tryz.prog Rows.modelTellsRow.laid W := by rw [← MakeChecks.laidMetH_plain _ _ _ (by kernel_rfl)]; exact hLH
  have hval : ∀ (j : Nat) t v, Tryz.f3.params[j]? = some t → args[j]? = some v → Value.okWide Tryz.prog W .any base t v := hval0
  have hW' := hW
  obtain ⟨p, q, hA0, hV, rfl, hfz, hnd⟩ := hW
  have hA : DataW.TrodAll enc Tryz.prog W 0 (fun _ => true) true Tryz.f3.params.toList args.toList ds p := hA0
  rw [Tryz.params3] at hA hval
  obtain ⟨v0, vs0, d0, ds0, p0, q0, hargs, rfl, rfl, h0, r0⟩ := trodAll_cons hA
  obtain ⟨v1, vs1, d1, ds1, p1, q1, rfl, rfl, rfl, h1, r1⟩ := trodAll_cons r0
  obtain ⟨v2, vs2, d2, ds2, p2, q2, rfl, rfl, rfl, h2, r2⟩ := trodAll_cons r1
  obtain ⟨rfl, rfl, rfl⟩ := trodAll_nil r2
  obtain rfl : args = #[v0, v1, v2] := by cases args; simp_all
  obtain ⟨rfl, rfl⟩ := trodVars_none hV
  have k0 := h0
  have lt0 : ∀ x ∈ p0, x.block < W.heap.size := by obtain ⟨m, hm⟩ := k0; exact DataW.trod_lt m _ _ _ hm
  have k1 := h1
  have lt1 : ∀ x ∈ p1, x.block < W.heap.size := by obtain ⟨m, hm⟩ := k1; exact DataW.trod_lt m _ _ _ hm
  have k2 := h2
  have lt2 : ∀ x ∈ p2, x.block < W.heap.size := by obtain ⟨m, hm⟩ := k2; exact DataW.trod_lt m _ _ _ hm
  obtain ⟨cs0, rfl, hsz0⟩ := okWide_struct Tryz.underlying25 (hval 0 25 v0 rfl rfl)
  obtain ⟨fuel0, hf0⟩ := h0
  have hcl0 : Tryz.prog.cellsOf 25 = 7 := by kernel_rfl
  rw [hcl0] at hsz0
  have hlv0 : leaves Tryz.prog 6 25 = [21, 21, 21, 21, 3, 3, 3] := by kernel_rfl
  have L0 := trod_leaves (enc := enc) 6 25 (by kernel_rfl) fuel0 cs0.toList _ (by rw [hlv0]; simpa using hsz0) hf0
  rw [hlv0] at L0
  obtain ⟨c0_0, e0_0, w0_0⟩ := leaf_int Tryz.underlying21 (L0 0 _ rfl)
  obtain ⟨c0_1, e0_1, w0_1⟩ := leaf_int Tryz.underlying21 (L0 1 _ rfl)
  obtain ⟨c0_2, e0_2, w0_2⟩ := leaf_int Tryz.underlying21 (L0 2 _ rfl)
  obtain ⟨c0_3, e0_3, w0_3⟩ := leaf_int Tryz.underlying21 (L0 3 _ rfl)
  obtain ⟨c0_4, e0_4, w0_4⟩ := leaf_int Tryz.underlying3 (L0 4 _ rfl)
  obtain ⟨c0_5, e0_5, w0_5⟩ := leaf_int Tryz.underlying3 (L0 5 _ rfl)
  obtain ⟨c0_6, e0_6, w0_6⟩ := leaf_int Tryz.underlying3 (L0 6 _ rfl)
  obtain rfl : cs0 = #[.int .i32 c0_0, .int .i32 c0_1, .int .i32 c0_2, .int .i32 c0_3, .int .i64 c0_4, .int .i64 c0_5, .int .i64 c0_6] := array_of (vs := [.int .i32 c0_0, .int .i32 c0_1, .int .i32 c0_2, .int .i32 c0_3, .int .i64 c0_4, .int .i64 c0_5, .int .i64 c0_6]) hsz0 (fun j hj => by
    match j, hj with
    | 0, _ => exact e0_0
    | 1, _ => exact e0_1
    | 2, _ => exact e0_2
    | 3, _ => exact e0_3
    | 4, _ => exact e0_4
    | 5, _ => exact e0_5
    | 6, _ => exact e0_6
    )
  obtain ⟨A1, len1, cap1, rfl⟩ := okWide_slice Tryz.underlying26 (hval 1 26 v1 rfl rfl)
  obtain ⟨z1, hs1, hl1, hm1, hw1⟩ : ∃ zs : List Int, Sl W (.slice A1 len1 cap1) (zs.map (.int .u8)) ∧ zs.length = len1 ∧ len1 ≤ maxLen ∧ ∀ n ∈ zs, (Lit.int .u8 n).wf = true := by
    obtain ⟨fuel, hf⟩ := h1
    rcases open_ints Tryz.underlying26 Tryz.underlying5 (by kernel_rfl) hf with ⟨hcs, _⟩ | ⟨x, l, c, zs, hcs, _, hl, hm, hz, _, hcell, hwz⟩
    · simp [Value.cells] at hcs
      obtain ⟨rfl, rfl, rfl⟩ := hcs
      exact ⟨_, Sl.of_row (k := .u8) (zs := []) (.inl ⟨rfl, rfl, rfl, rfl⟩)⟩
    · simp [Value.cells] at hcs
      obtain ⟨rfl, rfl, rfl⟩ := hcs
      exact ⟨_, Sl.of_row (.inr ⟨_, rfl, hl, hm, by simpa using hz, hcell, hwz⟩)⟩
  obtain ⟨a2, rfl, rfl, rfl, w2⟩ := open_int Tryz.underlying3 (hval 2 3 v2 rfl rfl) h2
  have b2 := bounds_i64 w2
  clear hA0 hval0
  have hwalk : Calls Tryz.prog 3 #[.agg #[.int .i32 c0_0, .int .i32 c0_1, .int .i32 c0_2, .int .i32 c0_3, .int .i64 c0_4, .int .i64 c0_5, .int .i64 c0_6], .slice A1 len1 cap1, .int .i64 a2] W fun e w' => e = .returned (.bool true) ∧ Chg W w' [] := by
    have ht : FTab W := Xi.ftab_of_laid hL
    rw [Xi.u8s_ints hw1] at hs1
    exact Xi.modelTells_calls ⟨⟨⟨c0_0, bounds_i32 w0_0⟩, ⟨c0_1, bounds_i32 w0_1⟩, ⟨c0_2, bounds_i32 w0_2⟩, ⟨c0_3, bounds_i32 w0_3⟩⟩, c0_4, c0_5, c0_6⟩ ⟨bounds_i64 w0_4, bounds_i64 w0_5, bounds_i64 w0_6⟩ (z1.map Int.toNat) (Xi.toNat_lt hw1) a2 b2 A1 len1 cap1 (by simpa using hl1) hm1 W ht hs1
  refine hwalk.mono fun e W' ⟨he, hc⟩ => ?_
  have bel := hc.to_below
  subst he
  exact ⟨_, rfl, _, _, _, [], _, [], hW', trodAll_mk1 (shut_bool Tryz.underlying4 _), (trodAll_cons_mk (Below.trod laidOut (by kernel_rfl) (of_decide_eq_true (by kernel_rfl)) k0 bel lt0) (trodAll_cons_mk (Below.trod laidOut (by kernel_rfl) (of_decide_eq_true (by kernel_rfl)) k1 bel lt1) (trodAll_cons_mk (Below.trod laidOut (by kernel_rfl) (of_decide_eq_true (by kernel_rfl)) k2 bel lt2) trodAll_mk0))), rfl, bel.frame _, fun h => by cases h⟩

theorem over : Rows.modelTellsRow.holds Tryz.pinned (OpenSpec.ofChange Rows.modelTellsSpec) :=
  OpenClaim.holds_of_wide 3 Tryz.f3 rfl rfl rfl rfl rfl rfl rfl ⟨rfl, rfl, rfl, rfl, rfl⟩ rfl rfl rfl rfl rfl (by kernel_rfl) Tryz.func3 (by kernel_rfl)
    (of_decide_eq_true (by kernel_rfl)) (by unfold Func.isWrapper; first | (rw [if_pos (by decide +kernel)]; kernel_rfl) | (rw [if_neg (by decide +kernel)]; exact ⟨rfl, rfl⟩))
    (fun os started H enc _ => lifted os started H enc)

/-- The statement. -/
theorem proved : Rows.ModelTellsCardSaid :=
  Claim7.holds_tied_plain_at .later [] [.data, .sentinel] true (true, "0d24e8e836895570db5cac5df746f38140055ec3ff2b76f4201d16eaf6c1d246") true
    over (fun _ h => by cases h) (by kernel_rfl) (fun _ h => by cases h) modelTells_row_tie rfl ⟨rfl, rfl⟩ (by kernel_rfl) rfl
    (fun f fn hf hfn => by
      obtain rfl : f = 3 := Option.some.inj ((show Tryz.prog.funcNamed "astrolabe/astrolabelaw37.ModelTells" = some 3 by kernel_rfl).symm.trans hf) |>.symm
      obtain rfl : fn = Tryz.f3 := (Option.some.inj (Tryz.func3.symm.trans hfn)).symm
      exact ⟨by kernel_rfl, fun j t ht => by
        rw [Tryz.params3] at ht
        have hm : t ∈ [25, 26, 3] := by simpa using Array.mem_of_getElem? ht
        have hall : ([25, 26, 3].all fun u => !Tryz.prog.wantsStandIn u) = true := by kernel_rfl
        exact (show Tryz.prog.wantsStandIn t = false by simpa using List.all_eq_true.1 hall t hm)⟩)
    (by kernel_rfl)
#print axioms proved
end Go.Proofs.YtihgijhjhmjolaaGreatDoor.modelTells
