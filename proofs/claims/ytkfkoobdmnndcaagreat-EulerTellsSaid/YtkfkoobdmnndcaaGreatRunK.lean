/- Layer 35: the reference's angles are the program's. EulerTells, as a run. -/
import Derived.Test.YtkfkoobdmnndcaaGreatRunJ
import Derived.Test.YtkfkoobdmnndcaaGreatRunG
import Derived.Test.YtkfkoobdmnndcaaGreatAwake5
namespace Go.Proofs.YtkfkoobdmnndcaaGreat.Xi
open Go Go.RowKit
set_option linter.unusedVariables false
def RQ' (F : Wd → Wd → Wd → Wd → Value) : List PA → Option Value
  | [.a [a, b, c, d]] => some (F a b c d)
  | _ => none
def entQ' (f : FuncId) (F : Wd → Wd → Wd → Wd → Value) (hR : ∀ a b c d, goodC (F a b c d)) (h : ∀ (a b c d : Wd) (w : World), Calls Tryz.prog f #[q4 a b c d] w fun e w' => e = .returned (F a b c d) ∧ Chg w w' []) : Ent :=
  entP f (RQ' F) fun ps v hv => by
    unfold RQ' at hv
    split at hv
    · injection hv with hv
      subst hv
      exact ⟨hR _ _ _ _, h _ _ _ _⟩
    · cases hv
def eul (x : T3) (l : Bool) : Value := .agg #[.int .i32 x.a.v, .int .i32 x.b.v, .int .i32 x.c.v, .bool l]
def eulI (a b c : Int) (l : Bool) : Value := .agg #[.int .i32 a, .int .i32 b, .int .i32 c, .bool l]
theorem goodC_eul (x : T3) (l : Bool) : goodC (eul x l) := .inl (.inr ⟨_, rfl, fun u hu => by
  simp at hu
  rcases hu with rfl | rfl | rfl | rfl
  · exact good_w _
  · exact good_w _
  · exact good_w _
  · trivial⟩)
def eY (q0 q1 q2 q3 : Int) : Int := addK (mulK q0 q1) (mulK q2 q3)
def eX (q1 q2 : Int) : Int := subK (subK 536870912 (mulK q1 q1)) (mulK q2 q2)
def eS (q0 q1 q2 q3 : Int) : Int := subK (mulK q0 q2) (mulK q3 q1)
def eA (y x : Int) : Int := (angleW (kW y) (kW x)).v
def eR (x y : Int) : Int := (sqrtW (kW (addK (mulK x x) (mulK y y)))).v
def eS' : List (FuncId × Sh) := [(65, .one), (36, .one), (38, .one), (41, .one), (40, .one), (39, .one)]
noncomputable def eT : List Ent := [mulqE, addE, subE, absE, sqrtE, angleE]
def eAll (a b c d : Int) (l : Bool) : Value := eulI (eA (eY a b c d) (eX b c)) (eA (eS a b c d) (eR (eX b c) (eY a b c d))) (eA (eY a d b c) (eX c d)) l
def inq (a b c d : Wd) : List Value := [.int .i32 a.v, .int .i32 b.v, .int .i32 c.v, .int .i32 d.v]
set_option maxRecDepth 100000 in
theorem of_run1 (a b c d : Wd) : runP (cxR [] eS' [(29, true)]) (tabOf eT) 300 16 [.agg (opqs 4 0)] (inq a b c d) = some (eAll a.v b.v c.v d.v true, [oGeq 21 .i32 (absK (eS a.v b.v c.v d.v)) 536000000 true]) := by kernel_rfl
set_option maxRecDepth 100000 in
theorem of_run0 (a b c d : Wd) : runP (cxR [] eS' [(29, false)]) (tabOf eT) 300 16 [.agg (opqs 4 0)] (inq a b c d) = some (eAll a.v b.v c.v d.v false, [oGeq 21 .i32 (absK (eS a.v b.v c.v d.v)) 536000000 false]) := by kernel_rfl
theorem eAll_eq (a b c d : Wd) (l : Bool) : eAll a.v b.v c.v d.v l = eul (anglesW a b c d) l := by
  have y : eY a.v b.v c.v d.v = (anglesY a b c d).v := by unfold eY addK mulK; simp only [kW_self]; rfl
  have x : eX b.v c.v = (anglesX a b c d).v := by unfold eX subK mulK; simp only [kW_self]; rfl
  have s : eS a.v b.v c.v d.v = (anglesS a b c d).v := by unfold eS subK mulK; simp only [kW_self]; rfl
  have u : eY a.v d.v b.v c.v = (anglesU a b c d).v := by unfold eY addK mulK; simp only [kW_self]; rfl
  have v : eX c.v d.v = (anglesV a b c d).v := by unfold eX subK mulK; simp only [kW_self]; rfl
  have r : eR (anglesX a b c d).v (anglesY a b c d).v = (anglesR a b c d).v := by unfold eR addK mulK; simp only [kW_self]; rfl
  unfold eAll
  rw [y, x, s, u, v, r]
  unfold eA
  simp only [kW_self]
  rfl
theorem lock_is (a b c d : Wd) : lockB a b c d = decide (536000000 ≤ (absW (anglesS a b c d)).v) := by
  unfold lockB
  show (subI (ltI (absW (anglesS a b c d)).v (kW 536000000).v) (kW 1).v != 0) = _
  rw [kW_v (by decide : In32 536000000), kW_v (by decide : In32 1)]
  unfold ltI
  by_cases h : (absW (anglesS a b c d)).v < 536000000
  · rw [if_pos h, show subI 1 1 = 0 by decide +kernel]
    simp
    omega
  · rw [if_neg h, show subI 0 1 = -1 by decide +kernel]
    simp
    omega
theorem refOf (a b c d : Wd) (w : World) : Calls Tryz.prog 16 #[q4 a b c d] w fun e w' => e = .returned (eul (anglesW a b c d) (lockB a b c d)) ∧ Chg w w' [] := by
  have s : absK (eS a.v b.v c.v d.v) = (absW (anglesS a b c d)).v := by unfold absK eS subK mulK; simp only [kW_self]; rfl
  rw [lock_is]
  by_cases h : 536000000 ≤ (absW (anglesS a b c d)).v
  · rw [decide_eq_true h]
    have := cxR_calls _ (of_run1 a b c d) (goodL_l [a, b, c, d]) (obs1 (oGeq_ok (by rw [s]; simpa using h))) w
    rw [eAll_eq] at this
    exact this
  · rw [decide_eq_false h]
    have := cxR_calls _ (of_run0 a b c d) (goodL_l [a, b, c, d]) (obs1 (oGeq_ok (by rw [s]; simpa using h))) w
    rw [eAll_eq] at this
    exact this
noncomputable def rOfE : Ent := entQ' 16 (fun a b c d => eul (anglesW a b c d) (lockB a b c d)) (fun _ _ _ _ => goodC_eul _ _) refOf
noncomputable def gOfE : Ent := entQ' 15 (fun a b c d => eul (anglesW a b c d) (lockB a b c d)) (fun _ _ _ _ => goodC_eul _ _) eof_calls
theorem eqE' (x0 x1 x2 : Int) (l : Bool) (w : World) : (Op.equalIn 10000 30 (.agg #[.int .i32 x0, .int .i32 x1, .int .i32 x2, .bool l]) (.agg #[.int .i32 x0, .int .i32 x1, .int .i32 x2, .bool l])).run Tryz.prog w = .ok true w := by
  have u3 := Tryz.underlying21
  have k3 := Tryz.isAgg21
  have z3 := Tryz.sizeOf21
  have u4 := Tryz.underlying4
  have k4 := Tryz.isAgg4
  have z4 := Tryz.sizeOf4
  rw [show (10000 : Nat) = 9999 + 1 from rfl, Op.equalIn]
  simp only [Sem.run_bind, run_underlying Tryz.underlying30, Result.andThen_ok]
  go_simp
theorem oE_same (x : T3) (l : Bool) : ObOk Tryz.prog (.test (.bin .eql 30) [eul x l, eul x l] (.bool true)) :=
  oArr_ok (by kernel_rfl) fun w => eqE' _ _ _ _ w
def elS : List (FuncId × Sh) := [(15, .agg 4), (16, .agg 4)]
noncomputable def elT : List Ent := [gOfE, rOfE]
def elK (a b c d : Wd) : Value := eul (anglesW (kW a.v) (kW b.v) (kW c.v) (kW d.v)) (lockB (kW a.v) (kW b.v) (kW c.v) (kW d.v))
set_option maxRecDepth 100000 in
theorem eulerTells_run (a b c d : Wd) : runP (cxR [(17, .lit (.bool true))] elS [(12, true)]) (tabOf elT) 200 4 [.agg (opqs 4 0)] (inq a b c d) =
    some (.bool true, [.call 17 [] (.bool true), .test (.bin .eql 30) [elK a b c d, elK a b c d] (.bool true)]) := by kernel_rfl
theorem eulerTells_calls (a b c d : Wd) (w : World) : Calls Tryz.prog 4 #[.agg #[.int .i32 a.v, .int .i32 b.v, .int .i32 c.v, .int .i32 d.v]] w fun e w' => e = .returned (.bool true) ∧ Chg w w' [] :=
  cxR_calls _ (eulerTells_run a b c d) (goodL_l [a, b, c, d]) (obsC (fun w => awake35_calls w) (obs1 (oE_same _ _))) w
end Go.Proofs.YtkfkoobdmnndcaaGreat.Xi
