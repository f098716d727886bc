/- The reference's Pick. -/
import Derived.Test.YtdliiamkoncneaaGreatDoorVote2
namespace Go.Proofs.YtdliiamkoncneaaGreatDoor
open Go.RowKit Go.Deep
set_option linter.unusedVariables false
def choiceI (a b c : Bool) : Int × Int := bif a && b then (0, -1) else bif a then (0, 2) else bif b then (0, 1) else bif c then (1, 0) else (-1, -1)
set_option maxRecDepth 100000 in
theorem choice_calls (a b c : Bool) (w : World) : Calls Tryz.prog 12 #[.bool a, .bool b, .bool c] w fun e w' => e = .returned (.tuple #[.int .i64 (choiceI a b c).1, .int .i64 (choiceI a b c).2]) ∧ w = w' := by
  cases a <;> cases b <;> cases c <;> (go_enter Tryz.func12, Tryz.ntmps12; go_wp2; go_ret2; exact ⟨rfl, rfl⟩)
/-- What agrees with what agrees: no other than these five. -/
theorem five (A B C : ByteArray) : (eqB A B = true ∧ eqB A C = true ∧ eqB B C = true) ∨ (eqB A B = true ∧ eqB A C = false ∧ eqB B C = false) ∨ (eqB A B = false ∧ eqB A C = true ∧ eqB B C = false) ∨ (eqB A B = false ∧ eqB A C = false ∧ eqB B C = true) ∨ (eqB A B = false ∧ eqB A C = false ∧ eqB B C = false) := by
  by_cases h1 : A = B
  · subst h1
    by_cases h2 : A = C
    · subst h2
      exact .inl ⟨eqB_true.2 rfl, eqB_true.2 rfl, eqB_true.2 rfl⟩
    · exact .inr (.inl ⟨eqB_true.2 rfl, eqB_false.2 h2, eqB_false.2 h2⟩)
  · by_cases h2 : A = C
    · subst h2
      exact .inr (.inr (.inl ⟨eqB_false.2 h1, eqB_true.2 rfl, eqB_false.2 (fun h => h1 h.symm)⟩))
    · by_cases h3 : B = C
      · exact .inr (.inr (.inr (.inl ⟨eqB_false.2 h1, eqB_false.2 h2, eqB_true.2 h3⟩)))
      · exact .inr (.inr (.inr (.inr ⟨eqB_false.2 h1, eqB_false.2 h2, eqB_false.2 h3⟩)))
theorem eqB_comm (A B : ByteArray) : eqB A B = eqB B A := by
  by_cases h : A = B
  · subst h; rfl
  · rw [eqB_false.2 h, eqB_false.2 (fun e => h e.symm)]
set_option maxRecDepth 100000 in
set_option maxHeartbeats 4000000 in
theorem rpick_calls (P0 P1 P2 : Option Addr) (n0 n1 n2 m0 m1 m2 : Nat) (A B C : ByteArray) (w : World) (h0 : Bs w (.slice P0 n0 m0) A) (h1 : Bs w (.slice P1 n1 m1) B) (h2 : Bs w (.slice P2 n2 m2) C) :
    Calls Tryz.prog 6 #[.slice P0 n0 m0, .slice P1 n1 m1, .slice P2 n2 m2] w fun e w' => Chg w w' [] ∧ ∃ x, e = .returned (.tuple #[x, .int .i64 (chosenB A B C).2.1, .int .i64 (pickE (chosenB A B C).2.2)]) ∧ Bs w' x (chosenB A B C).1 := by
  have c0 := conv_str h0
  have c1 := conv_str h1
  have c2 := conv_str h2
  have H0 := hide h0
  have H1 := hide h1
  have H2 := hide h2
  clear h0 h1 h2
  have HC := hide (Chg.refl w [])
  have hf := five A B C
  have hbA : eqB B A = eqB A B := eqB_comm B A
  rcases hf with ⟨p, q, r⟩ | ⟨p, q, r⟩ | ⟨p, q, r⟩ | ⟨p, q, r⟩ | ⟨p, q, r⟩
  all_goals (
    have HR := hide (show chosenB A B C = (bif eqB B C then (bif eqB B A then (A, -1, true) else (B, 0, true)) else bif eqB A C then (A, 1, true) else bif eqB A B then (A, 2, true) else (⟨#[]⟩, -1, false)) from rfl)
    rw [hbA, p, q, r] at HR
    simp only [cond_true, cond_false] at HR
    have p' : (A.toList == B.toList) = _ := p
    have q' : (A.toList == C.toList) = _ := q
    have r' : (B.toList == C.toList) = _ := r
    clear p q r hbA
    go_enter Tryz.func6, Tryz.ntmps6
    go_wp2_with fail
    refine (choice_calls _ _ _ _).mono ?_
    rintro e w1 ⟨rfl, rfl⟩
    clear c0 c1 c2 p' q' r'
    unfold choiceI
    simp only [Bool.and_true, Bool.and_false, cond_true, cond_false])
  · go_wp2
    go_ret3
    rw [HR.out]
    exact ⟨HC.out.alloc _, _, rfl, H0.out.chg ((Chg.refl _ []).alloc _)⟩
  · go_wp2
    go_ret3
    rw [HR.out]
    exact ⟨HC.out.alloc _, _, rfl, H0.out.chg ((Chg.refl _ []).alloc _)⟩
  · go_wp2
    go_ret3
    rw [HR.out]
    exact ⟨HC.out.alloc _, _, rfl, H0.out.chg ((Chg.refl _ []).alloc _)⟩
  · go_wp2
    go_ret3
    rw [HR.out]
    exact ⟨HC.out.alloc _, _, rfl, H1.out.chg ((Chg.refl _ []).alloc _)⟩
  · go_wp2
    go_ret3
    rw [HR.out]
    exact ⟨HC.out, _, rfl, Bs.nil _⟩
end Go.Proofs.YtdliiamkoncneaaGreatDoor
