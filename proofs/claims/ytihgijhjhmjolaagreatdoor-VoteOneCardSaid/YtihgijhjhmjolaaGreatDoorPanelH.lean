/- What VoteOne asks besides: the reference's Reset; states compared. (As in PanelF, PanelG.) -/
import Derived.Test.YtihgijhjhmjolaaGreatDoorPanelE
namespace Go.Proofs.YtihgijhjhmjolaaGreatDoor.Xi
open Go Go.RowKit Go.Deep
set_option linter.unusedVariables false
theorem five_an (A B C : An) : (chosenA A B C = some (A, -1) ∧ choiceR (A.eqB B) (A.eqB C) (B.eqB C) = (0, -1)) ∨ (chosenA A B C = some (A, 2) ∧ choiceR (A.eqB B) (A.eqB C) (B.eqB C) = (0, 2)) ∨ (chosenA A B C = some (A, 1) ∧ choiceR (A.eqB B) (A.eqB C) (B.eqB C) = (0, 1)) ∨
 (chosenA A B C = some (B, 0) ∧ choiceR (A.eqB B) (A.eqB C) (B.eqB C) = (1, 0)) ∨ (chosenA A B C = none ∧ choiceR (A.eqB B) (A.eqB C) (B.eqB C) = (-1, -1)) := by
 unfold chosenA choiceR
 by_cases h1 : A = B
 · subst h1
   by_cases h2 : A = C
   · subst h2
     simp [An.eqB_true.2 rfl]
   · simp [An.eqB_true.2 rfl, An.eqB_false.2 h2]
 · have h1' : ¬ B = A := fun e => h1 e.symm
   by_cases h2 : A = C
   · subst h2
     simp [An.eqB_true.2 rfl, An.eqB_false.2 h1, An.eqB_false.2 h1']
   · by_cases h3 : B = C
     · subst h3
       simp [An.eqB_true.2 rfl, An.eqB_false.2 h1, An.eqB_false.2 h1']
     · simp [An.eqB_false.2 h1, An.eqB_false.2 h2, An.eqB_false.2 h3]
set_option maxRecDepth 100000 in
theorem rreset_calls (w : World) : Calls Tryz.prog 21 #[] w fun e w' => e = .returned (.agg #[.int .i32 1073741824, .int .i32 0, .int .i32 0, .int .i32 0, .int .i64 0, .int .i64 0, .int .i64 0]) ∧ Chg w w' [] := by
 have h : runP (cxR [] [] []) (tabOf []) 200 21 [] [] = some (.agg #[.int .i32 1073741824, .int .i32 0, .int .i32 0, .int .i32 0, .int .i64 0, .int .i64 0, .int .i64 0], []) := by kernel_rfl
 exact cxR_calls _ h (fun v hv => by cases hv) obs0 w
theorem right_64 {x : St} (h : x.right) : x.i64 := by
 unfold St.right in16 at h
 unfold St.i64
 omega
theorem an_right {x : St} (hr : x.right) (xs : List Nat) : (an x xs).s.right := by
 show (feedR x xs).1.right
 unfold feedR
 cases x.rb with
 | false => exact hr
 | true =>
  cases decide (xs.length = 20) with
  | false => exact hr
  | true =>
   simp only [cond_true]
   unfold St.right in16 at *
   unfold St.next
   cases sumOk xs 18 <;> simp only [cond_true, cond_false] <;> omega
theorem panR_right {x : St} (hr : x.right) (a b c : Int) {A B C : An} (hA : A.s.right) (hB : B.s.right) : (panR x a b c A B C).x.right := by
 unfold panR
 rcases five_an A B C with ⟨h, _⟩ | ⟨h, _⟩ | ⟨h, _⟩ | ⟨h, _⟩ | ⟨h, _⟩ <;> rw [h] <;> assumption
theorem exec_neqS {a : Act} {o : Oper} {x y : Nat} {X : St} {t : TypeId} (ho : o.op = .binOp .neq 25 (.tmp x) (.tmp y) t) (hx : a.tmps.getD x undef = .agg #[.int .i32 X.q.a.v, .int .i32 X.q.b.v, .int .i32 X.q.c.v, .int .i32 X.q.d.v, .int .i64 X.s, .int .i64 X.f, .int .i64 X.g]) (hy : a.tmps.getD y undef = .agg #[.int .i32 X.q.a.v, .int .i32 X.q.b.v, .int .i32 X.q.c.v, .int .i32 X.q.d.v, .int .i64 X.s, .int .i64 X.f, .int .i64 X.g]) (w : World) : (execOp a.eval o).run Tryz.prog w = .ok (.value (.bool false)) w := by
 have hg := run_eqGuard_agg (P := Tryz.prog) w .neq 25 (.tmp x) (.tmp y) #[.int .i32 X.q.a.v, .int .i32 X.q.b.v, .int .i32 X.q.c.v, .int .i32 X.q.d.v, .int .i64 X.s, .int .i64 X.f, .int .i64 X.g] #[.int .i32 X.q.a.v, .int .i32 X.q.b.v, .int .i32 X.q.c.v, .int .i32 X.q.d.v, .int .i64 X.s, .int .i64 X.f, .int .i64 X.g] (by kernel_rfl)
 have k := eqS X.q.a.v X.q.b.v X.q.c.v X.q.d.v X.q.a.v X.q.b.v X.q.c.v X.q.d.v X.s X.f X.g X.s X.f X.g w
 simp only [BEq.rfl, Bool.and_self] at k
 have e : (Op.equal 25 (.agg #[.int .i32 X.q.a.v, .int .i32 X.q.b.v, .int .i32 X.q.c.v, .int .i32 X.q.d.v, .int .i64 X.s, .int .i64 X.f, .int .i64 X.g]) (.agg #[.int .i32 X.q.a.v, .int .i32 X.q.b.v, .int .i32 X.q.c.v, .int .i32 X.q.d.v, .int .i64 X.s, .int .i64 X.f, .int .i64 X.g])).run Tryz.prog w = .ok true w := k
 have hx' : a.eval (.tmp x) = _ := hx
 have hy' : a.eval (.tmp y) = _ := hy
 unfold execOp
 simp only [ho, hx', hy', Sem.run_bind, hg, binOp, e, Result.andThen_ok, Sem.run_pure, Bool.not_true]
theorem w_incM {j n : Nat} (h : j < n) (hm : n ≤ maxLen) : wrap64 ((j : Int) + 1) = ((j + 1 : Nat) : Int) := by
 simp only [maxLen] at hm
 unfold wrap64
 omega
theorem meas_z {j n : Nat} (h : j < n) (z : Int) (hz : z = ((j + 1 : Nat) : Int)) : n - (intOf (.int .i64 z)).toNat < n - (intOf (.int .i64 (j : Int))).toNat := by
 subst hz
 show n - (((j + 1 : Nat) : Int)).toNat < n - ((j : Int)).toNat
 omega
theorem int_z {j : Nat} (z : Int) (hz : z = ((j + 1 : Nat) : Int)) : Value.int .i64 z = .int .i64 ((j + 1 : Nat) : Int) := by rw [hz]
end Go.Proofs.YtihgijhjhmjolaaGreatDoor.Xi
