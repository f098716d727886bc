/- VotePicks: the law's walk. -/
import Derived.Test.YtdliiamkoncneaaGreatDoorVote5
namespace Go.Proofs.YtdliiamkoncneaaGreatDoor
open Go.RowKit Go.Deep
set_option linter.unusedVariables false
theorem chosen_rot (A B C : ByteArray) : (chosenB C A B).1 = (chosenB A B C).1 ∧ (chosenB C A B).2.2 = (chosenB A B C).2.2 := by
  unfold chosenB
  rw [eqB_comm B A, eqB_comm C A, eqB_comm C B]
  rcases five A B C with ⟨p, q, r⟩ | ⟨p, q, r⟩ | ⟨p, q, r⟩ | ⟨p, q, r⟩ | ⟨p, q, r⟩ <;> rw [p, q, r] <;> simp only [cond_true, cond_false]
  · exact ⟨(eqB_true.1 q).symm, by trivial⟩
  · exact ⟨by trivial, by trivial⟩
  · exact ⟨(eqB_true.1 q).symm, by trivial⟩
  · exact ⟨(eqB_true.1 r).symm, by trivial⟩
  · exact ⟨by trivial, by trivial⟩
set_option maxRecDepth 100000 in
set_option maxHeartbeats 8000000 in
theorem votePicks_calls (P0 P1 P2 : Option Addr) (n0 n1 n2 m0 m1 m2 : Nat) (A B C : ByteArray) (w : World) (h0 : Bs w (.slice P0 n0 m0) A) (h1 : Bs w (.slice P1 n1 m1) B) (h2 : Bs w (.slice P2 n2 m2) C) :
    Calls Tryz.prog 3 #[.slice P0 n0 m0, .slice P1 n1 m1, .slice P2 n2 m2] w fun e w' => e = .returned (.bool true) ∧ Chg w w' [] := by
  have H0 := hide h0
  have H1 := hide h1
  have H2 := hide h2
  clear h0 h1 h2
  have early : ∀ l0 l1 l2 : Bool, decide ((200 : Int) < n0) = l0 → decide ((200 : Int) < n1) = l1 → decide ((200 : Int) < n2) = l2 → (l0 || l1 || l2) = true →
      Calls Tryz.prog 3 #[.slice P0 n0 m0, .slice P1 n1 m1, .slice P2 n2 m2] w fun e w' => e = .returned (.bool true) ∧ Chg w w' [] := fun l0 l1 l2 k0 k1 k2 h => by
    cases l0 <;> cases l1 <;> cases l2 <;> first
      | exact absurd h (by decide)
      | (clear h; go_enter Tryz.func3, Tryz.ntmps3; go_wp2_with fail; refine (awake43_calls _).mono ?_; rintro e w1 ⟨rfl, hc⟩; go_wp2; go_ret; exact ⟨rfl, hc⟩)
  by_cases hl : (decide ((200 : Int) < n0) || decide ((200 : Int) < n1) || decide ((200 : Int) < n2)) = true
  · exact early _ _ _ rfl rfl rfl hl
  clear early
  have k0 : decide ((200 : Int) < n0) = false := by
    cases h : decide ((200 : Int) < n0)
    · rfl
    · rw [h] at hl; simp at hl
  have k1 : decide ((200 : Int) < n1) = false := by
    cases h : decide ((200 : Int) < n1)
    · rfl
    · rw [h] at hl; simp at hl
  have k2 : decide ((200 : Int) < n2) = false := by
    cases h : decide ((200 : Int) < n2)
    · rfl
    · rw [h] at hl; simp at hl
  clear hl
  have HR := hide (chosen_rot A B C)
  go_enter Tryz.func3, Tryz.ntmps3
  go_wp2_with fail
  clear k0 k1 k2
  refine (pick_calls _ _ _ A B C _ H0.out H1.out H2.out).mono ?_
  rintro e w1 ⟨hc1, x, rfl, hx⟩
  have K0 := hide (H0.out.chg hc1)
  have K1 := hide (H1.out.chg hc1)
  have K2 := hide (H2.out.chg hc1)
  have HC1 := hide hc1
  have HX1 := hide hx
  clear H0 H1 H2 hc1 hx
  go_wp2_with fail
  refine (rpick_calls _ _ _ _ _ _ _ _ _ A B C _ K0.out K1.out K2.out).mono ?_
  rintro e w2 ⟨hc2, y, rfl, hy⟩
  have L0 := hide (K0.out.chg hc2)
  have L1 := hide (K1.out.chg hc2)
  have L2 := hide (K2.out.chg hc2)
  have HC2 := hide (HC1.out.trans hc2 (D := []) (by simp))
  have HX2 := hide (HX1.out.chg hc2)
  have HY2 := hide hy
  clear K0 K1 K2 HC1 HX1 hc2 hy
  go_wp2_with fail
  refine (pick_calls _ _ _ C A B _ L2.out L0.out L1.out).mono ?_
  rintro e w3 ⟨hc3, z, rfl, hz⟩
  have HC3 := hide (HC2.out.trans hc3 (D := []) (by simp))
  obtain ⟨r1, r2⟩ := HR.out
  rw [r1] at hz
  rw [r2]
  have cx := conv_str (HX2.out.chg hc3)
  have cy := conv_str (HY2.out.chg hc3)
  have cz := conv_str hz
  clear L0 L1 L2 HC2 HX2 HY2 hc3 hz HR r1 r2
  generalize (chosenB A B C).1 = S at *
  generalize (chosenB A B C).2.1 = n at *
  generalize pickE (chosenB A B C).2.2 = er at *
  generalize (chosenB C A B).2.1 = n' at *
  go_wp2_with fail
  refine (awake43_calls _).mono ?_
  rintro e w4 ⟨rfl, hc4⟩
  have HC4 := hide (HC3.out.trans hc4 (D := []) (by simp))
  clear hc4 HC3 cx cy cz
  go_wp2
  go_ret
  exact ⟨rfl, HC4.out⟩
end Go.Proofs.YtdliiamkoncneaaGreatDoor
