/- The walks of the references of layers 6 and 13: Shape, field, Check. -/
import Derived.Test.YtjfnpokebaagmaaGreatDoorCheck
namespace Go.Proofs.YtjfnpokebaagmaaGreatDoor
open Go.RowKit Go.Deep
set_option linter.unusedVariables false

set_option maxHeartbeats 1000000 in
theorem refshape_any (op : Int) (w : World) :
    Calls Tryz.prog 62 #[.int .i64 op] w fun e w' => e = .returned (.string ⟨(shp op).toArray⟩) ∧ w = w' := by
  rcases shp_cases op with ⟨h, e⟩ | ⟨h, e⟩ | ⟨h, e⟩ | ⟨h, e⟩ | ⟨h, e⟩ | ⟨h, e⟩ | ⟨h, e⟩ | ⟨h, e⟩ | ⟨h, e⟩ | ⟨h, e⟩
  · rw [e]; clear e
    rcases h with h | h
    · have d1 : decide (1 ≤ op) = false := by simp; omega
      have d2 : decide (23 < op) = false := by simp; omega
      have n31 : (op == 31) = false := by rw [beq_eq_false_iff_ne]; omega
      have n32 : (op == 32) = false := by rw [beq_eq_false_iff_ne]; omega
      have n34 : (op == 34) = false := by rw [beq_eq_false_iff_ne]; omega
      have n35 : (op == 35) = false := by rw [beq_eq_false_iff_ne]; omega
      have n36 : (op == 36) = false := by rw [beq_eq_false_iff_ne]; omega
      have n37 : (op == 37) = false := by rw [beq_eq_false_iff_ne]; omega
      have n38 : (op == 38) = false := by rw [beq_eq_false_iff_ne]; omega
      have n33 : (op == 33) = false := by rw [beq_eq_false_iff_ne]; omega
      have n40 : (op == 40) = false := by rw [beq_eq_false_iff_ne]; omega
      have n39 : (op == 39) = false := by rw [beq_eq_false_iff_ne]; omega
      have n41 : (op == 41) = false := by rw [beq_eq_false_iff_ne]; omega
      have n42 : (op == 42) = false := by rw [beq_eq_false_iff_ne]; omega
      have n43 : (op == 43) = false := by rw [beq_eq_false_iff_ne]; omega
      go_enter Tryz.func62, Tryz.ntmps62
      go_wp2
      go_ret
      exact ⟨rfl, rfl⟩
    · have d1 : decide (1 ≤ op) = true := by simp; omega
      have d2 : decide (op ≤ 23) = false := by simp; omega
      have d3 : decide (23 < op) = true := by simp; omega
      have d4 : decide (op ≤ 30) = false := by simp; omega
      have n31 : (op == 31) = false := by rw [beq_eq_false_iff_ne]; omega
      have n32 : (op == 32) = false := by rw [beq_eq_false_iff_ne]; omega
      have n34 : (op == 34) = false := by rw [beq_eq_false_iff_ne]; omega
      have n35 : (op == 35) = false := by rw [beq_eq_false_iff_ne]; omega
      have n36 : (op == 36) = false := by rw [beq_eq_false_iff_ne]; omega
      have n37 : (op == 37) = false := by rw [beq_eq_false_iff_ne]; omega
      have n38 : (op == 38) = false := by rw [beq_eq_false_iff_ne]; omega
      have n33 : (op == 33) = false := by rw [beq_eq_false_iff_ne]; omega
      have n40 : (op == 40) = false := by rw [beq_eq_false_iff_ne]; omega
      have n39 : (op == 39) = false := by rw [beq_eq_false_iff_ne]; omega
      have n41 : (op == 41) = false := by rw [beq_eq_false_iff_ne]; omega
      have n42 : (op == 42) = false := by rw [beq_eq_false_iff_ne]; omega
      have n43 : (op == 43) = false := by rw [beq_eq_false_iff_ne]; omega
      go_enter Tryz.func62, Tryz.ntmps62
      go_wp2
      go_ret
      exact ⟨rfl, rfl⟩
  · rw [e]; clear e
    obtain ⟨h1, h2⟩ := h
    go_enter Tryz.func62, Tryz.ntmps62
    go_wp2
    go_ret
    exact ⟨rfl, rfl⟩
  · rw [e]; clear e
    obtain ⟨h1, h2⟩ := h
    have d2 : decide (op ≤ 23) = false := by simp; omega
    have d3 : decide (23 < op) = true := by simp; omega
    have d4 : decide (op ≤ 30) = true := by simp; omega
    go_enter Tryz.func62, Tryz.ntmps62
    go_wp2
    go_ret
    exact ⟨rfl, rfl⟩
  · rw [e]; clear e; subst h
    go_enter Tryz.func62, Tryz.ntmps62
    go_wp2
    go_ret
    exact ⟨rfl, rfl⟩
  · rw [e]; clear e; subst h
    go_enter Tryz.func62, Tryz.ntmps62
    go_wp2
    go_ret
    exact ⟨rfl, rfl⟩
  · rw [e]; clear e; subst h
    go_enter Tryz.func62, Tryz.ntmps62
    go_wp2
    go_ret
    exact ⟨rfl, rfl⟩
  · rw [e]; clear e
    have h5 : op = 32 ∨ op = 34 ∨ op = 35 ∨ op = 36 ∨ op = 37 ∨ op = 38 := by omega
    clear h
    rcases h5 with h | h | h | h | h | h
    all_goals
      subst h
      go_enter Tryz.func62, Tryz.ntmps62
      go_wp2
      go_ret
      exact ⟨rfl, rfl⟩
  · rw [e]; clear e; subst h
    go_enter Tryz.func62, Tryz.ntmps62
    go_wp2
    go_ret
    exact ⟨rfl, rfl⟩
  · rw [e]; clear e; subst h
    go_enter Tryz.func62, Tryz.ntmps62
    go_wp2
    go_ret
    exact ⟨rfl, rfl⟩
  · rw [e]; clear e
    rcases h with h | h
    all_goals
      subst h
      go_enter Tryz.func62, Tryz.ntmps62
      go_wp2
      go_ret
      exact ⟨rfl, rfl⟩

set_option maxHeartbeats 1000000 in
theorem reffield_any (l : UInt8) (n : Int) (w : World) :
    Calls Tryz.prog 63 #[.int .u8 (l.toNat : Int), .int .i64 n] w fun e w' => e = .returned (.int .i64 (fe l n)) ∧ w' = w := by
  have key : ∀ m : UInt8, l = m ↔ ((l.toNat : Int) = (m.toNat : Int)) := fun m => by rw [← UInt8.toNat_inj]; omega
  by_cases h1 : l = 45
  · subst h1
    by_cases hn : n = 0
    · subst hn
      go_enter Tryz.func63, Tryz.ntmps63
      go_wp2
      go_ret
      exact ⟨rfl, rfl⟩
    · have hf : fe 45 n = 3 := by unfold fe lo hi er; simp; omega
      rw [hf]
      have hb : (n != 0) = true := by rw [bne_iff_ne]; exact hn
      clear hf hn key
      go_enter Tryz.func63, Tryz.ntmps63
      go_wp2
      go_ret
      exact ⟨rfl, rfl⟩
  · have e3 : er l = 6 := by unfold er; rw [if_neg h1]
    have hgen : ∀ L H : Int, lo l = L → hi l = H → (n < L ∧ fe l n = 6) ∨ (¬ n < L ∧ H < n ∧ fe l n = 6) ∨ (¬ n < L ∧ ¬ H < n ∧ fe l n = 0) := by
      intro L H hL hH
      unfold fe
      rw [hL, hH, e3]
      by_cases a : n < L
      · exact .inl ⟨a, if_pos (.inl a)⟩
      · by_cases b : H < n
        · exact .inr (.inl ⟨a, b, if_pos (.inr b)⟩)
        · exact .inr (.inr ⟨a, b, if_neg (by omega)⟩)
    by_cases h2 : l = 115
    · subst h2
      rcases hgen (-32768) 32767 rfl rfl with ⟨a, e⟩ | ⟨a, b, e⟩ | ⟨a, b, e⟩
      all_goals
        rw [e]
        clear e hgen e3 key h1
        go_enter Tryz.func63, Tryz.ntmps63
        go_wp2
        go_ret
        exact ⟨rfl, rfl⟩
    · by_cases h3 : l = 117
      · subst h3
        rcases hgen 0 65535 rfl rfl with ⟨a, e⟩ | ⟨a, b, e⟩ | ⟨a, b, e⟩
        all_goals
          rw [e]
          clear e hgen e3 key h1 h2
          go_enter Tryz.func63, Tryz.ntmps63
          go_wp2
          go_ret
          exact ⟨rfl, rfl⟩
      · have e1 : lo l = 0 := by unfold lo; rw [if_neg h2]
        have e2 : hi l = 31 := by unfold hi; rw [if_neg h1, if_neg h2, if_neg h3]
        have k1 : ((l.toNat : Int) == 45) = false := by rw [beq_eq_false_iff_ne]; intro h; exact h1 ((key 45).2 h)
        have k2 : ((l.toNat : Int) == 115) = false := by rw [beq_eq_false_iff_ne]; intro h; exact h2 ((key 115).2 h)
        have k3 : ((l.toNat : Int) == 117) = false := by rw [beq_eq_false_iff_ne]; intro h; exact h3 ((key 117).2 h)
        rcases hgen 0 31 e1 e2 with ⟨a, e⟩ | ⟨a, b, e⟩ | ⟨a, b, e⟩
        all_goals
          rw [e]
          clear h1 h2 h3 key e1 e2 e3 hgen e
          generalize (l.toNat : Int) = m at *
          go_enter Tryz.func63, Tryz.ntmps63
          go_wp2
          go_ret
          exact ⟨rfl, rfl⟩

end Go.Proofs.YtjfnpokebaagmaaGreatDoor
