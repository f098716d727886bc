/- The walks of package code over package ops' shapes: Shape, fields, bounds, Check. -/
import Derived.Test.YtjfnpokebaagmaaGreatDoorMem
namespace Go.Proofs.YtjfnpokebaagmaaGreatDoor
open Go.RowKit Go.Deep
set_option linter.unusedVariables false

/-- The letters of an operation's fields; none: there is no such operation. -/
def shp (op : Int) : List UInt8 :=
  if op < 1 ∨ 43 < op then [] else if op ≤ 23 then [100, 97, 98, 45] else if op ≤ 30 then [100, 97, 45, 45] else if op = 31 then [100, 97, 45, 115]
  else if op = 33 ∨ op = 40 then [100, 45, 45, 117] else if op < 39 then [100, 97, 45, 117] else if op = 39 then [45, 45, 45, 117] else if op = 41 then [45, 97, 45, 45] else [45, 45, 45, 45]

theorem shp_cases (op : Int) : (op < 1 ∨ 43 < op) ∧ shp op = [] ∨ (1 ≤ op ∧ op ≤ 23) ∧ shp op = [100, 97, 98, 45] ∨ (24 ≤ op ∧ op ≤ 30) ∧ shp op = [100, 97, 45, 45] ∨ op = 31 ∧ shp op = [100, 97, 45, 115] ∨
    op = 33 ∧ shp op = [100, 45, 45, 117] ∨ op = 40 ∧ shp op = [100, 45, 45, 117] ∨ (op = 32 ∨ 34 ≤ op ∧ op ≤ 38) ∧ shp op = [100, 97, 45, 117] ∨ op = 39 ∧ shp op = [45, 45, 45, 117] ∨ op = 41 ∧ shp op = [45, 97, 45, 45] ∨ (op = 42 ∨ op = 43) ∧ shp op = [45, 45, 45, 45] := by
  unfold shp
  by_cases h0 : op < 1 ∨ 43 < op
  · exact .inl ⟨h0, if_pos h0⟩
  rw [if_neg h0]
  by_cases h1 : op ≤ 23
  · exact .inr (.inl ⟨by omega, if_pos h1⟩)
  rw [if_neg h1]
  by_cases h2 : op ≤ 30
  · exact .inr (.inr (.inl ⟨by omega, if_pos h2⟩))
  rw [if_neg h2]
  by_cases h3 : op = 31
  · exact .inr (.inr (.inr (.inl ⟨h3, if_pos h3⟩)))
  rw [if_neg h3]
  by_cases h4 : op = 33
  · exact .inr (.inr (.inr (.inr (.inl ⟨h4, if_pos (.inl h4)⟩))))
  by_cases h5 : op = 40
  · exact .inr (.inr (.inr (.inr (.inr (.inl ⟨h5, if_pos (.inr h5)⟩)))))
  rw [if_neg (by omega)]
  by_cases h6 : op < 39
  · exact .inr (.inr (.inr (.inr (.inr (.inr (.inl ⟨by omega, if_pos h6⟩))))))
  rw [if_neg h6]
  by_cases h7 : op = 39
  · exact .inr (.inr (.inr (.inr (.inr (.inr (.inr (.inl ⟨h7, if_pos h7⟩)))))))
  rw [if_neg h7]
  by_cases h8 : op = 41
  · exact .inr (.inr (.inr (.inr (.inr (.inr (.inr (.inr (.inl ⟨h8, if_pos h8⟩))))))))
  rw [if_neg h8]
  exact .inr (.inr (.inr (.inr (.inr (.inr (.inr (.inr (.inr ⟨by omega, rfl⟩))))))))

set_option maxHeartbeats 1000000 in
theorem shape_any (op : Int) (w : World) :
    Calls Tryz.prog 56 #[.int .i64 op] w fun e w' => e = .returned (.string ⟨(shp op).toArray⟩) ∧ w = w' := by
  rcases shp_cases op with ⟨h, e⟩ | ⟨h, e⟩ | ⟨h, e⟩ | ⟨h, e⟩ | ⟨h, e⟩ | ⟨h, e⟩ | ⟨h, e⟩ | ⟨h, e⟩ | ⟨h, e⟩ | ⟨h, e⟩
  · rw [e]; clear e
    rcases h with h | h
    · have d1 : decide (1 ≤ op) = false := by simp; omega
      go_enter Tryz.func56, Tryz.ntmps56
      go_wp2
      go_ret
      exact ⟨rfl, rfl⟩
    · have d1 : decide (op ≤ 43) = false := by simp; omega
      have h1 : 1 ≤ op := by omega
      go_enter Tryz.func56, Tryz.ntmps56
      go_wp2
      go_ret
      exact ⟨rfl, rfl⟩
  · rw [e]; clear e
    have d1 : decide (1 ≤ op) = true := by simp; omega
    have d2 : decide (op ≤ 43) = true := by simp; omega
    obtain ⟨h1, h2⟩ := h
    go_enter Tryz.func56, Tryz.ntmps56
    go_wp2
    go_ret
    exact ⟨rfl, rfl⟩
  · rw [e]; clear e
    have d1 : decide (1 ≤ op) = true := by simp; omega
    have d2 : decide (op ≤ 43) = true := by simp; omega
    obtain ⟨h1, h2⟩ := h
    go_enter Tryz.func56, Tryz.ntmps56
    go_wp2
    go_ret
    exact ⟨rfl, rfl⟩
  · rw [e]; clear e; subst h
    go_enter Tryz.func56, Tryz.ntmps56
    go_wp2
    go_ret
    exact ⟨rfl, rfl⟩
  · rw [e]; clear e; subst h
    go_enter Tryz.func56, Tryz.ntmps56
    go_wp2
    go_ret
    exact ⟨rfl, rfl⟩
  · rw [e]; clear e; subst h
    go_enter Tryz.func56, Tryz.ntmps56
    go_wp2
    go_ret
    exact ⟨rfl, rfl⟩
  · rw [e]; clear e
    rcases h with h | ⟨h1, h2⟩
    · subst h
      go_enter Tryz.func56, Tryz.ntmps56
      go_wp2
      go_ret
      exact ⟨rfl, rfl⟩
    · have h5 : (op == 31) = false := by rw [beq_eq_false_iff_ne]; omega
      have h3 : (op == 33) = false := by rw [beq_eq_false_iff_ne]; omega
      have h4 : (op == 40) = false := by rw [beq_eq_false_iff_ne]; omega
      have d1 : decide (1 ≤ op) = true := by simp; omega
      have d2 : decide (op ≤ 43) = true := by simp; omega
      go_enter Tryz.func56, Tryz.ntmps56
      go_wp2
      go_ret
      exact ⟨rfl, rfl⟩
  · rw [e]; clear e; subst h
    go_enter Tryz.func56, Tryz.ntmps56
    go_wp2
    go_ret
    exact ⟨rfl, rfl⟩
  · rw [e]; clear e; subst h
    go_enter Tryz.func56, Tryz.ntmps56
    go_wp2
    go_ret
    exact ⟨rfl, rfl⟩
  · rw [e]; clear e
    rcases h with h | h
    all_goals
      subst h
      go_enter Tryz.func56, Tryz.ntmps56
      go_wp2
      go_ret
      exact ⟨rfl, rfl⟩

end Go.Proofs.YtjfnpokebaagmaaGreatDoor
