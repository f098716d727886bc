/- What the laws of layer 43 ask besides: few; the reference's Reset; states and counts compared. -/
import Derived.Test.YtihgijhjhmjolaaGreatDoorPanelF
import Derived.Test.YtihgijhjhmjolaaGreatDoorVP18
namespace Go.Proofs.YtihgijhjhmjolaaGreatDoor.Xi
open Go Go.RowKit Go.Deep
set_option linter.unusedVariables false
set_option maxRecDepth 100000 in
theorem rreset_calls (w : World) : Calls Tryz.prog 21 #[] w fun e w' => e = .returned (.agg #[.int .i32 1073741824, .int .i32 0, .int .i32 0, .int .i32 0, .int .i64 0, .int .i64 0, .int .i64 0]) ∧ Chg w w' [] := by
 have h : runP (cxR [] [] []) (tabOf []) 200 21 [] [] = some (.agg #[.int .i32 1073741824, .int .i32 0, .int .i32 0, .int .i32 0, .int .i64 0, .int .i64 0, .int .i64 0], []) := by kernel_rfl
 exact cxR_calls _ h (fun v hv => by cases hv) obs0 w
theorem right_64 {x : St} (h : x.right) : x.i64 := by
 unfold St.right in16 at h
 unfold St.i64
 omega
theorem an_right {x : St} (hr : x.right) (xs : List Nat) : (an x xs).s.right := by
 show (feedR x xs).1.right
 unfold feedR
 cases x.rb with
 | false => exact hr
 | true =>
  cases decide (xs.length = 20) with
  | false => exact hr
  | true =>
   simp only [cond_true]
   unfold St.right in16 at *
   unfold St.next
   cases sumOk xs 18 <;> simp only [cond_true, cond_false] <;> omega
theorem panR_right {x : St} (hr : x.right) (a b c : Int) {A B C : An} (hA : A.s.right) (hB : B.s.right) : (panR x a b c A B C).x.right := by
 unfold panR
 rcases five_an A B C with ⟨h, _⟩ | ⟨h, _⟩ | ⟨h, _⟩ | ⟨h, _⟩ | ⟨h, _⟩ <;> rw [h] <;> assumption
theorem eqI3 (x0 x1 x2 : Int) (w : World) : (Op.equalIn 10000 50 (.agg #[.int .i64 x0, .int .i64 x1, .int .i64 x2]) (.agg #[.int .i64 x0, .int .i64 x1, .int .i64 x2])).run Tryz.prog w = .ok true w := by
 have u3 := Tryz.underlying3
 have k3 := Tryz.isAgg3
 have z3 := Tryz.sizeOf3
 rw [show (10000 : Nat) = 9999 + 1 from rfl, Op.equalIn]
 simp only [Sem.run_bind, run_underlying Tryz.underlying50, Result.andThen_ok]
 simp only [Std.Legacy.Range.forIn_eq_forIn_range', Std.Legacy.Range.size, Nat.sub_zero, Nat.add_sub_cancel, Nat.div_one, List.range'_succ, List.range'_zero, List.forIn_cons, List.forIn_nil]
 go_simp
theorem exec_neqS {a : Act} {o : Oper} {x y : Nat} {X : St} {t : TypeId} (ho : o.op = .binOp .neq 25 (.tmp x) (.tmp y) t) (hx : a.tmps.getD x undef = .agg #[.int .i32 X.q.a.v, .int .i32 X.q.b.v, .int .i32 X.q.c.v, .int .i32 X.q.d.v, .int .i64 X.s, .int .i64 X.f, .int .i64 X.g]) (hy : a.tmps.getD y undef = .agg #[.int .i32 X.q.a.v, .int .i32 X.q.b.v, .int .i32 X.q.c.v, .int .i32 X.q.d.v, .int .i64 X.s, .int .i64 X.f, .int .i64 X.g]) (w : World) : (execOp a.eval o).run Tryz.prog w = .ok (.value (.bool false)) w := by
 have hg := run_eqGuard_agg (P := Tryz.prog) w .neq 25 (.tmp x) (.tmp y) #[.int .i32 X.q.a.v, .int .i32 X.q.b.v, .int .i32 X.q.c.v, .int .i32 X.q.d.v, .int .i64 X.s, .int .i64 X.f, .int .i64 X.g] #[.int .i32 X.q.a.v, .int .i32 X.q.b.v, .int .i32 X.q.c.v, .int .i32 X.q.d.v, .int .i64 X.s, .int .i64 X.f, .int .i64 X.g] (by kernel_rfl)
 have k := eqS X.q.a.v X.q.b.v X.q.c.v X.q.d.v X.q.a.v X.q.b.v X.q.c.v X.q.d.v X.s X.f X.g X.s X.f X.g w
 simp only [BEq.rfl, Bool.and_self] at k
 have e : (Op.equal 25 (.agg #[.int .i32 X.q.a.v, .int .i32 X.q.b.v, .int .i32 X.q.c.v, .int .i32 X.q.d.v, .int .i64 X.s, .int .i64 X.f, .int .i64 X.g]) (.agg #[.int .i32 X.q.a.v, .int .i32 X.q.b.v, .int .i32 X.q.c.v, .int .i32 X.q.d.v, .int .i64 X.s, .int .i64 X.f, .int .i64 X.g])).run Tryz.prog w = .ok true w := k
 have hx' : a.eval (.tmp x) = _ := hx
 have hy' : a.eval (.tmp y) = _ := hy
 unfold execOp
 simp only [ho, hx', hy', Sem.run_bind, hg, binOp, e, Result.andThen_ok, Sem.run_pure, Bool.not_true]
theorem exec_neq3 {a : Act} {o : Oper} {x y : Nat} {p q r : Int} {t : TypeId} (ho : o.op = .binOp .neq 50 (.tmp x) (.tmp y) t) (hx : a.tmps.getD x undef = .agg #[.int .i64 p, .int .i64 q, .int .i64 r]) (hy : a.tmps.getD y undef = .agg #[.int .i64 p, .int .i64 q, .int .i64 r]) (w : World) : (execOp a.eval o).run Tryz.prog w = .ok (.value (.bool false)) w := by
 have hg := run_eqGuard_agg (P := Tryz.prog) w .neq 50 (.tmp x) (.tmp y) #[.int .i64 p, .int .i64 q, .int .i64 r] #[.int .i64 p, .int .i64 q, .int .i64 r] (by kernel_rfl)
 have e : (Op.equal 50 (.agg #[.int .i64 p, .int .i64 q, .int .i64 r]) (.agg #[.int .i64 p, .int .i64 q, .int .i64 r])).run Tryz.prog w = .ok true w := eqI3 p q r w
 have hx' : a.eval (.tmp x) = _ := hx
 have hy' : a.eval (.tmp y) = _ := hy
 unfold execOp
 simp only [ho, hx', hy', Sem.run_bind, hg, binOp, e, Result.andThen_ok, Sem.run_pure, Bool.not_true]
def BoolE (e : Ending) : Prop := ∃ r, e = .returned (.bool r)
theorem w_incM {j n : Nat} (h : j < n) (hm : n ≤ maxLen) : wrap64 ((j : Int) + 1) = ((j + 1 : Nat) : Int) := by
 simp only [maxLen] at hm
 unfold wrap64
 omega
theorem meas_z {j n : Nat} (h : j < n) (z : Int) (hz : z = ((j + 1 : Nat) : Int)) : n - (intOf (.int .i64 z)).toNat < n - (intOf (.int .i64 (j : Int))).toNat := by
 subst hz
 show n - (((j + 1 : Nat) : Int)).toNat < n - ((j : Int)).toNat
 omega
theorem int_z {j : Nat} (z : Int) (hz : z = ((j + 1 : Nat) : Int)) : Value.int .i64 z = .int .i64 ((j + 1 : Nat) : Int) := by rw [hz]
set_option maxRecDepth 100000 in
set_option maxHeartbeats 4000000 in
theorem few_calls (A : Option Addr) (n c : Nat) (hm : n ≤ maxLen) (W : World) (hT : Threes W A n) : Calls Tryz.prog 19 #[.slice A n c] W fun e w' => BoolE e ∧ w' = W := by
 have HT := hide hT
 replace hm := hide hm
 clear hT
 go_enter Tryz.func19, Tryz.ntmps19
 go_wp2_with fail
 go_loopw [3] (fun i wr => ∃ j : Nat, i = .int .i64 j ∧ j ≤ n ∧ wr = W) (fun i _ => n - (intOf i).toNat)
 case atStart => exact ⟨0, rfl, by omega, rfl⟩
 case round =>
  obtain ⟨j, rfl, hj, rfl⟩ := hrel
  by_cases hlt : j < n
  · have k3 : decide ((j : Int) < (n : Int)) = true := by simpa using (by omega : (j : Int) < (n : Int))
    obtain ⟨b, off, rfl, hall⟩ := HT.out (by omega)
    obtain ⟨r, v1, v2, v3, e0, e1, e2, e3, ⟨A1, l1, c1, _, rfl, _⟩, ⟨A2, l2, c2, _, rfl, _⟩, ⟨A3, l3, c3, _, rfl, _⟩⟩ := hall j hlt
    clear hall
    by_cases h1 : (100 : Int) < (l1 : Int)
    · go_wp2_with fail
      go_ret
      exact ⟨⟨_, rfl⟩, rfl⟩
    · by_cases h2 : (100 : Int) < (l2 : Int)
      · go_wp2_with fail
        go_ret
        exact ⟨⟨_, rfl⟩, rfl⟩
      · by_cases h3 : (100 : Int) < (l3 : Int)
        · go_wp2_with fail
          go_ret
          exact ⟨⟨_, rfl⟩, rfl⟩
        · go_wp2_with fail
          exact ⟨⟨j + 1, int_z _ (w_incM hlt hm.out), hlt, trivial⟩, meas_z hlt _ (w_incM hlt hm.out)⟩
  · have k3 : decide ((j : Int) < (n : Int)) = false := by simpa using (by omega : (n : Int) ≤ (j : Int))
    go_wp2_with fail
    go_ret
    exact ⟨⟨_, rfl⟩, rfl⟩
end Go.Proofs.YtihgijhjhmjolaaGreatDoor.Xi
