/- Shape, Reckons, Cost of package ops and of the reference. -/
import Derived.Test.YtidceolaemikgaaDoorOpsRef
namespace Go.Proofs.YtidceolaemikgaaDoor
open Go.RowKit Go.Deep Go.Shelf
set_option linter.unusedVariables false

def isOp (op : Int) : Bool := decide (1 ≤ op ∧ op ≤ 43)
theorem is_calls (op : Int) (w : World) : Calls Tryd.prog 29 #[.int .i64 op] w fun e w' => e = .returned (.bool (isOp op)) ∧ w = w' := by
  by_cases h0 : 1 ≤ op
  · have d0 : decide (op ≥ 1) = true := by simpa using h0
    have e : isOp op = decide (op ≤ 43) := by unfold isOp; simp [h0]
    rw [e]
    go_enter Tryd.func29, Tryd.ntmps29
    go_wp2
    go_ret
    exact ⟨rfl, rfl⟩
  · have d0 : decide (op ≥ 1) = false := by simpa using h0
    have e : isOp op = false := by unfold isOp; simp; omega
    rw [e]
    go_enter Tryd.func29, Tryd.ntmps29
    go_wp2
    go_ret
    exact ⟨rfl, rfl⟩

def reckOf (op : Int) : Bool := decide (1 ≤ op ∧ op ≤ 30)
theorem reckons_calls (op : Int) (w : World) : Calls Tryd.prog 16 #[.int .i64 op] w fun e w' => e = .returned (.bool (reckOf op)) ∧ w = w' := by
  by_cases h0 : 1 ≤ op
  · have d0 : decide (op ≥ 1) = true := by simpa using h0
    have e : reckOf op = decide (op ≤ 30) := by unfold reckOf; simp [h0]
    rw [e]
    go_enter Tryd.func16, Tryd.ntmps16
    go_wp2
    go_ret
    exact ⟨rfl, rfl⟩
  · have d0 : decide (op ≥ 1) = false := by simpa using h0
    have e : reckOf op = false := by unfold reckOf; simp; omega
    rw [e]
    go_enter Tryd.func16, Tryd.ntmps16
    go_wp2
    go_ret
    exact ⟨rfl, rfl⟩
theorem refreckons_calls (op : Int) (w : World) : Calls Tryd.prog 17 #[.int .i64 op] w fun e w' => e = .returned (.bool (reckOf op)) ∧ w = w' := by
  by_cases h0 : 1 ≤ op
  · have d0 : decide (op ≥ 1) = true := by simpa using h0
    have e : reckOf op = decide (op ≤ 30) := by unfold reckOf; simp [h0]
    rw [e]
    go_enter Tryd.func17, Tryd.ntmps17
    go_wp2
    go_ret
    exact ⟨rfl, rfl⟩
  · have d0 : decide (op ≥ 1) = false := by simpa using h0
    have e : reckOf op = false := by unfold reckOf; simp; omega
    rw [e]
    go_enter Tryd.func17, Tryd.ntmps17
    go_wp2
    go_ret
    exact ⟨rfl, rfl⟩

def shapeOf (op : Int) : ByteArray :=
  if op < 1 then ⟨#[]⟩ else if 43 < op then ⟨#[]⟩ else if op ≤ 23 then ⟨#[100, 97, 98, 45]⟩ else if op ≤ 30 then ⟨#[100, 97, 45, 45]⟩ else if op = 31 then ⟨#[100, 97, 45, 115]⟩
  else if op = 33 then ⟨#[100, 45, 45, 117]⟩ else if op = 40 then ⟨#[100, 45, 45, 117]⟩ else if op < 39 then ⟨#[100, 97, 45, 117]⟩ else if op = 39 then ⟨#[45, 45, 45, 117]⟩ else if op = 41 then ⟨#[45, 97, 45, 45]⟩ else ⟨#[45, 45, 45, 45]⟩

/-- op is one of 31..43, or in one of four ranges. -/
theorem op_cases (op : Int) : op < 1 ∨ 43 < op ∨ (1 ≤ op ∧ op ≤ 23) ∨ (23 < op ∧ op ≤ 30) ∨ op = 31 ∨ op = 32 ∨ op = 33 ∨ op = 34 ∨ op = 35 ∨ op = 36 ∨ op = 37 ∨ op = 38 ∨ op = 39 ∨ op = 40 ∨ op = 41 ∨ op = 42 ∨ op = 43 := by omega

set_option maxRecDepth 100000 in
set_option maxHeartbeats 2000000 in
theorem shape_calls (op : Int) (w : World) : Calls Tryd.prog 12 #[.int .i64 op] w fun e w' => e = .returned (.string (shapeOf op)) ∧ w = w' := by
  rcases op_cases op with h | h | ⟨h, h'⟩ | ⟨h, h'⟩ | h | h | h | h | h | h | h | h | h | h | h | h | h
  · have e : shapeOf op = ⟨#[]⟩ := by unfold shapeOf; rw [if_pos h]
    have e2 : isOp op = false := by unfold isOp; simp; omega
    rw [e]
    go_enter Tryd.func12, Tryd.ntmps12
    go_wp2_with fail
    refine (is_calls _ _).mono ?_
    rintro e w1 ⟨rfl, rfl⟩
    rw [e2]
    go_wp2
    go_ret
    exact ⟨rfl, rfl⟩
  · have e : shapeOf op = ⟨#[]⟩ := by unfold shapeOf; rw [if_neg (by omega), if_pos h]
    have e2 : isOp op = false := by unfold isOp; simp; omega
    rw [e]
    go_enter Tryd.func12, Tryd.ntmps12
    go_wp2_with fail
    refine (is_calls _ _).mono ?_
    rintro e w1 ⟨rfl, rfl⟩
    rw [e2]
    go_wp2
    go_ret
    exact ⟨rfl, rfl⟩
  · have e : shapeOf op = ⟨#[100, 97, 98, 45]⟩ := by unfold shapeOf; rw [if_neg (by omega), if_neg (by omega), if_pos h']
    have e2 : isOp op = true := by unfold isOp; simp; omega
    have d : decide (op ≤ 23) = true := by simpa using h'
    rw [e]
    go_enter Tryd.func12, Tryd.ntmps12
    go_wp2_with fail
    refine (is_calls _ _).mono ?_
    rintro e w1 ⟨rfl, rfl⟩
    rw [e2]
    go_wp2
    go_ret
    exact ⟨rfl, rfl⟩
  · have e : shapeOf op = ⟨#[100, 97, 45, 45]⟩ := by unfold shapeOf; rw [if_neg (by omega), if_neg (by omega), if_neg (by omega), if_pos h']
    have e2 : isOp op = true := by unfold isOp; simp; omega
    have d : decide (op ≤ 23) = false := by simpa using h
    have d : decide (op ≤ 30) = true := by simpa using h'
    rw [e]
    go_enter Tryd.func12, Tryd.ntmps12
    go_wp2_with fail
    refine (is_calls _ _).mono ?_
    rintro e w1 ⟨rfl, rfl⟩
    rw [e2]
    go_wp2
    go_ret
    exact ⟨rfl, rfl⟩
  all_goals
    subst h
    go_enter Tryd.func12, Tryd.ntmps12
    go_wp2_with fail
    refine (is_calls _ _).mono ?_
    rintro e w1 ⟨rfl, rfl⟩
    rw [show isOp _ = true from rfl]
    go_wp2
    go_ret
    exact ⟨rfl, rfl⟩

set_option maxRecDepth 100000 in
set_option maxHeartbeats 2000000 in
theorem refshape_calls (op : Int) (w : World) : Calls Tryd.prog 13 #[.int .i64 op] w fun e w' => e = .returned (.string (shapeOf op)) ∧ w = w' := by
  rcases op_cases op with h | h | ⟨h, h'⟩ | ⟨h, h'⟩ | h | h | h | h | h | h | h | h | h | h | h | h | h
  · have e : shapeOf op = ⟨#[]⟩ := by unfold shapeOf; rw [if_pos h]
    have d : decide (op ≥ 1) = false := by simp; omega
    have d2 : decide (op > 23) = false := by simp; omega
    have ds : ∀ k : Int, 1 ≤ k → (op == k) = false := fun k hk => by simp; omega
    have q31 := ds 31 (by omega); have q32 := ds 32 (by omega); have q33 := ds 33 (by omega); have q34 := ds 34 (by omega); have q35 := ds 35 (by omega); have q36 := ds 36 (by omega)
    have q37 := ds 37 (by omega); have q38 := ds 38 (by omega); have q39 := ds 39 (by omega); have q40 := ds 40 (by omega); have q41 := ds 41 (by omega); have q42 := ds 42 (by omega); have q43 := ds 43 (by omega)
    clear ds
    rw [e]
    go_enter Tryd.func13, Tryd.ntmps13
    go_wp2
    go_ret
    exact ⟨rfl, rfl⟩
  · have e : shapeOf op = ⟨#[]⟩ := by unfold shapeOf; rw [if_neg (by omega), if_pos h]
    have d : decide (op ≥ 1) = true := by simp; omega
    have d' : decide (op ≤ 23) = false := by simp; omega
    have d2 : decide (op > 23) = true := by simp; omega
    have d3 : decide (op ≤ 30) = false := by simp; omega
    have ds : ∀ k : Int, k ≤ 43 → (op == k) = false := fun k hk => by simp; omega
    have q31 := ds 31 (by omega); have q32 := ds 32 (by omega); have q33 := ds 33 (by omega); have q34 := ds 34 (by omega); have q35 := ds 35 (by omega); have q36 := ds 36 (by omega)
    have q37 := ds 37 (by omega); have q38 := ds 38 (by omega); have q39 := ds 39 (by omega); have q40 := ds 40 (by omega); have q41 := ds 41 (by omega); have q42 := ds 42 (by omega); have q43 := ds 43 (by omega)
    clear ds
    rw [e]
    go_enter Tryd.func13, Tryd.ntmps13
    go_wp2
    go_ret
    exact ⟨rfl, rfl⟩
  · have e : shapeOf op = ⟨#[100, 97, 98, 45]⟩ := by unfold shapeOf; rw [if_neg (by omega), if_neg (by omega), if_pos h']
    have d : decide (op ≥ 1) = true := by simp; omega
    have d' : decide (op ≤ 23) = true := by simp; omega
    rw [e]
    go_enter Tryd.func13, Tryd.ntmps13
    go_wp2
    go_ret
    exact ⟨rfl, rfl⟩
  · have e : shapeOf op = ⟨#[100, 97, 45, 45]⟩ := by unfold shapeOf; rw [if_neg (by omega), if_neg (by omega), if_neg (by omega), if_pos h']
    have d : decide (op ≥ 1) = true := by simp; omega
    have d' : decide (op ≤ 23) = false := by simp; omega
    have d2 : decide (op > 23) = true := by simp; omega
    have d3 : decide (op ≤ 30) = true := by simp; omega
    rw [e]
    go_enter Tryd.func13, Tryd.ntmps13
    go_wp2
    go_ret
    exact ⟨rfl, rfl⟩
  all_goals
    subst h
    go_enter Tryd.func13, Tryd.ntmps13
    go_wp2
    go_ret
    exact ⟨rfl, rfl⟩

end Go.Proofs.YtidceolaemikgaaDoor
