/- Layers 10 and 33: the reference's products, rates, pull, field are the program's. -/
import Derived.Test.YtkfkoobdmnndcaaGreatRunG
import Derived.Test.YtkfkoobdmnndcaaGreatWorks9
namespace Go.Proofs.YtkfkoobdmnndcaaGreat.Xi
open Go Go.RowKit
set_option linter.unusedVariables false
def RQ (F : Wd → Wd → Wd → Wd → Value) : List PA → Option Value
  | [.a [a, b, c, d]] => some (F a b c d)
  | _ => none
def entQ (f : FuncId) (F : Wd → Wd → Wd → Wd → Value) (hR : ∀ a b c d, goodC (F a b c d)) (h : ∀ (a b c d : Wd) (w : World), Calls Tryz.prog f #[q4 a b c d] w fun e w' => e = .returned (F a b c d) ∧ Chg w w' []) : Ent :=
  entP f (RQ F) fun ps v hv => by
    unfold RQ at hv
    split at hv
    · injection hv with hv
      subst hv
      exact ⟨hR _ _ _ _, h _ _ _ _⟩
    · cases hv
def RQV (F : Wd → Wd → Wd → Wd → Wd → Wd → Wd → Value) : List PA → Option Value
  | [.a [a, b, c, d], .a [x, y, z]] => some (F a b c d x y z)
  | _ => none
def entQV (f : FuncId) (F : Wd → Wd → Wd → Wd → Wd → Wd → Wd → Value) (hR : ∀ a b c d x y z, goodC (F a b c d x y z)) (h : ∀ (a b c d x y z : Wd) (w : World), Calls Tryz.prog f #[q4 a b c d, q3 x y z] w fun e w' => e = .returned (F a b c d x y z) ∧ Chg w w' []) : Ent :=
  entP f (RQV F) fun ps v hv => by
    unfold RQV at hv
    split at hv
    · injection hv with hv
      subst hv
      exact ⟨hR _ _ _ _ _ _ _, h _ _ _ _ _ _ _⟩
    · cases hv
def RQQ (F : Wd → Wd → Wd → Wd → Wd → Wd → Wd → Wd → Value) : List PA → Option Value
  | [.a [a, b, c, d], .a [x, y, z, t]] => some (F a b c d x y z t)
  | _ => none
def entQQ (f : FuncId) (F : Wd → Wd → Wd → Wd → Wd → Wd → Wd → Wd → Value) (hR : ∀ a b c d x y z t, goodC (F a b c d x y z t)) (h : ∀ (a b c d x y z t : Wd) (w : World), Calls Tryz.prog f #[q4 a b c d, q4 x y z t] w fun e w' => e = .returned (F a b c d x y z t) ∧ Chg w w' []) : Ent :=
  entP f (RQQ F) fun ps v hv => by
    unfold RQQ at hv
    split at hv
    · injection hv with hv
      subst hv
      exact ⟨hR _ _ _ _ _ _ _ _, h _ _ _ _ _ _ _ _⟩
    · cases hv
abbrev v3 (a b c : Wd) : Value := q3 a b c
def qv (x : Q4) : Value := q4 x.a x.b x.c x.d
def qI (a b c d : Int) : Value := .agg #[.int .i32 a, .int .i32 b, .int .i32 c, .int .i32 d]
theorem goodC_qv (x : Q4) : goodC (qv x) := goodC_q4 _ _ _ _
def negK (a : Int) : Int := (negW (kW a)).v
def in4 (a b c d : Wd) : List Value := [.int .i32 a.v, .int .i32 b.v, .int .i32 c.v, .int .i32 d.v]
def in7 (a b c d x y z : Wd) : List Value := [.int .i32 a.v, .int .i32 b.v, .int .i32 c.v, .int .i32 d.v, .int .i32 x.v, .int .i32 y.v, .int .i32 z.v]
def in8 (a b c d x y z t : Wd) : List Value := [.int .i32 a.v, .int .i32 b.v, .int .i32 c.v, .int .i32 d.v, .int .i32 x.v, .int .i32 y.v, .int .i32 z.v, .int .i32 t.v]
theorem ins4 (a b c d : Wd) : goodL (in4 a b c d) := goodL_l [a, b, c, d]
theorem ins7 (a b c d x y z : Wd) : goodL (in7 a b c d x y z) := goodL_l [a, b, c, d, x, y, z]
theorem ins8 (a b c d x y z t : Wd) : goodL (in8 a b c d x y z t) := goodL_l [a, b, c, d, x, y, z, t]
def wS : List (FuncId × Sh) := [(65, .one), (36, .one), (38, .one), (52, .one), (66, .one)]
noncomputable def wT : List Ent := [mulqE, addE, subE, negE, sarE]
/-! ### Layer 10 -/
set_option maxRecDepth 100000 in
theorem qnorm_run (a b c d : Wd) : runP (cxR [] wS []) (tabOf wT) 300 54 [.agg (opqs 4 0)] (in4 a b c d) = some (.int .i32 (addK (addK (addK (mulK a.v a.v) (mulK b.v b.v)) (mulK c.v c.v)) (mulK d.v d.v)), []) := by kernel_rfl
theorem refQNorm (a b c d : Wd) (w : World) : Calls Tryz.prog 54 #[q4 a b c d] w fun e w' => e = .returned (.int .i32 (normW a [b, c, d]).v) ∧ Chg w w' [] := by
  have h := cxR_calls _ (qnorm_run a b c d) (ins4 a b c d) obs0 w
  unfold addK mulK at h
  simp only [kW_self] at h
  exact h
noncomputable def qnormE : Ent := entQ 54 (fun a b c d => .int .i32 (normW a [b, c, d]).v) (fun _ _ _ _ => goodC_w _) refQNorm
set_option maxRecDepth 100000 in
theorem conj_run (a b c d : Wd) : runP (cxR [] wS []) (tabOf wT) 300 51 [.agg (opqs 4 0)] (in4 a b c d) = some (qI a.v (negK b.v) (negK c.v) (negK d.v), []) := by kernel_rfl
theorem refConj (a b c d : Wd) (w : World) : Calls Tryz.prog 51 #[q4 a b c d] w fun e w' => e = .returned (q4 a (negW b) (negW c) (negW d)) ∧ Chg w w' [] := by
  have h := cxR_calls _ (conj_run a b c d) (ins4 a b c d) obs0 w
  unfold negK at h
  simp only [kW_self] at h
  exact h
noncomputable def conjE : Ent := entQ 51 (fun a b c d => q4 a (negW b) (negW c) (negW d)) (fun _ _ _ _ => goodC_q4 _ _ _ _) refConj
def timesK (p0 p1 p2 p3 q0 q1 q2 q3 : Int) : Value := qI
  (subK (subK (subK (mulK p0 q0) (mulK p1 q1)) (mulK p2 q2)) (mulK p3 q3))
  (subK (addK (addK (mulK p0 q1) (mulK p1 q0)) (mulK p2 q3)) (mulK p3 q2))
  (addK (addK (subK (mulK p0 q2) (mulK p1 q3)) (mulK p2 q0)) (mulK p3 q1))
  (addK (subK (addK (mulK p0 q3) (mulK p1 q2)) (mulK p2 q1)) (mulK p3 q0))
set_option maxRecDepth 100000 in
theorem times_run (p0 p1 p2 p3 q0 q1 q2 q3 : Wd) : runP (cxR [] wS []) (tabOf wT) 300 49 [.agg (opqs 4 0), .agg (opqs 4 4)] (in8 p0 p1 p2 p3 q0 q1 q2 q3) = some (timesK p0.v p1.v p2.v p3.v q0.v q1.v q2.v q3.v, []) := by kernel_rfl
theorem refTimes (p0 p1 p2 p3 q0 q1 q2 q3 : Wd) (w : World) : Calls Tryz.prog 49 #[q4 p0 p1 p2 p3, q4 q0 q1 q2 q3] w fun e w' => e = .returned (qv (timesW p0 p1 p2 p3 q0 q1 q2 q3)) ∧ Chg w w' [] := by
  have h := cxR_calls _ (times_run p0 p1 p2 p3 q0 q1 q2 q3) (ins8 p0 p1 p2 p3 q0 q1 q2 q3) obs0 w
  unfold timesK addK subK mulK at h
  simp only [kW_self] at h
  exact h
noncomputable def timesE : Ent := entQQ 49 (fun a b c d x y z t => qv (timesW a b c d x y z t)) (fun _ _ _ _ _ _ _ _ => goodC_qv _) refTimes
def rateK (q0 q1 q2 q3 w0 w1 w2 : Int) : Value := qI
  (subK (subK (subK 0 (mulK q1 w0)) (mulK q2 w1)) (mulK q3 w2))
  (subK (addK (mulK q0 w0) (mulK q2 w2)) (mulK q3 w1))
  (addK (subK (mulK q0 w1) (mulK q1 w2)) (mulK q3 w0))
  (subK (addK (mulK q0 w2) (mulK q1 w1)) (mulK q2 w0))
set_option maxRecDepth 100000 in
theorem rate_run (q0 q1 q2 q3 w0 w1 w2 : Wd) : runP (cxR [] wS []) (tabOf wT) 300 50 [.agg (opqs 4 0), .agg (opqs 3 4)] (in7 q0 q1 q2 q3 w0 w1 w2) = some (rateK q0.v q1.v q2.v q3.v w0.v w1.v w2.v, []) := by kernel_rfl
theorem refRate (q0 q1 q2 q3 w0 w1 w2 : Wd) (w : World) : Calls Tryz.prog 50 #[q4 q0 q1 q2 q3, v3 w0 w1 w2] w fun e w' => e = .returned (qv (rateW q0 q1 q2 q3 w0 w1 w2)) ∧ Chg w w' [] := by
  have h := cxR_calls _ (rate_run q0 q1 q2 q3 w0 w1 w2) (ins7 q0 q1 q2 q3 w0 w1 w2) obs0 w
  unfold rateK addK subK mulK at h
  simp only [kW_self] at h
  exact h
noncomputable def rateE : Ent := entQV 50 (fun a b c d x y z => qv (rateW a b c d x y z)) (fun _ _ _ _ _ _ _ => goodC_qv _) refRate
/-! ### Layer 33 -/
def imF0 (q0 q1 q2 q3 a : Int) : Int := subK (subK (mulK q1 q3) (mulK q0 q2)) (sarK a 1)
def imF1 (q0 q1 q2 q3 a : Int) : Int := subK (addK (mulK q0 q1) (mulK q2 q3)) (sarK a 1)
def imF2 (q1 q2 a : Int) : Int := subK (subK (subK 536870912 (mulK q1 q1)) (mulK q2 q2)) (sarK a 1)
def imK (q0 q1 q2 q3 f0 f1 f2 : Int) : Value := qI (sarK (subK (mulK q1 f1) (mulK q2 f0)) 1) (subK (sarK (addK (mulK q3 f0) (mulK q0 f1)) 1) (mulK q1 f2)) (subK (sarK (subK (mulK q3 f1) (mulK q0 f0)) 1) (mulK q2 f2)) (sarK (addK (mulK q1 f0) (mulK q2 f1)) 1)
set_option maxRecDepth 100000 in
theorem imu_run (q0 q1 q2 q3 a0 a1 a2 : Wd) : runP (cxR [] wS []) (tabOf wT) 300 19 [.agg (opqs 4 0), .agg (opqs 3 4)] (in7 q0 q1 q2 q3 a0 a1 a2) = some (imK q0.v q1.v q2.v q3.v (imF0 q0.v q1.v q2.v q3.v a0.v) (imF1 q0.v q1.v q2.v q3.v a1.v) (imF2 q1.v q2.v a2.v), []) := by kernel_rfl
theorem refImu (q0 q1 q2 q3 a0 a1 a2 : Wd) (w : World) : Calls Tryz.prog 19 #[q4 q0 q1 q2 q3, v3 a0 a1 a2] w fun e w' => e = .returned (qv (pullW q0 q1 q2 q3 a0 a1 a2)) ∧ Chg w w' [] := by
  have h := cxR_calls _ (imu_run q0 q1 q2 q3 a0 a1 a2) (ins7 q0 q1 q2 q3 a0 a1 a2) obs0 w
  have e0 : imF0 q0.v q1.v q2.v q3.v a0.v = (pullF0 q0 q1 q2 q3 a0).v := by
    unfold imF0 subK mulK sarK pullF0; simp only [kW_self]; rw [down_eq _ (by decide : In32 1)]; rfl
  have e1 : imF1 q0.v q1.v q2.v q3.v a1.v = (pullF1 q0 q1 q2 q3 a1).v := by
    unfold imF1 subK addK mulK sarK pullF1; simp only [kW_self]; rw [down_eq _ (by decide : In32 1)]; rfl
  have e2 : imF2 q1.v q2.v a2.v = (pullF2 q1 q2 a2).v := by
    unfold imF2 subK mulK sarK pullF2; simp only [kW_self]; rw [down_eq _ (by decide : In32 1)]; rfl
  rw [e0, e1, e2] at h
  have e : qv (pullW q0 q1 q2 q3 a0 a1 a2) = imK q0.v q1.v q2.v q3.v (pullF0 q0 q1 q2 q3 a0).v (pullF1 q0 q1 q2 q3 a1).v (pullF2 q1 q2 a2).v := by
    unfold pullW
    generalize pullF0 q0 q1 q2 q3 a0 = f0
    generalize pullF1 q0 q1 q2 q3 a1 = f1
    generalize pullF2 q1 q2 a2 = f2
    unfold imK pullOf subK addK mulK sarK
    simp only [kW_self]
    rw [down_eq _ (by decide : In32 1), down_eq _ (by decide : In32 1), down_eq _ (by decide : In32 1), down_eq _ (by decide : In32 1)]
    rfl
  rw [e]
  exact h
noncomputable def rImuE : Ent := entQV 19 (fun a b c d x y z => qv (pullW a b c d x y z)) (fun _ _ _ _ _ _ _ => goodC_qv _) refImu
def evS : List (FuncId × Sh) := [(54, .one), (36, .one), (32, .two .one .one), (33, .one)]
noncomputable def evT : List Ent := [qnormE, addE, rsqrtE, scaleE]
def evN (a b c d : Int) : Wd := kW (addK (normW (kW a) [kW b, kW c, kW d]).v 1024)
def evP (a b c d x : Int) : Int := scK x (rootW (evN a b c d)).1.v (rootW (evN a b c d)).2.v
set_option maxRecDepth 100000 in
theorem dunit_run (a b c d : Wd) : runP (cxR [] evS []) (tabOf evT) 300 23 [.agg (opqs 4 0)] (in4 a b c d) = some (qI (evP a.v b.v c.v d.v a.v) (evP a.v b.v c.v d.v b.v) (evP a.v b.v c.v d.v c.v) (evP a.v b.v c.v d.v d.v), []) := by kernel_rfl
theorem refDUnit (a b c d : Wd) (w : World) : Calls Tryz.prog 23 #[q4 a b c d] w fun e w' => e = .returned (qv (evenW a b c d)) ∧ Chg w w' [] := by
  have h := cxR_calls _ (dunit_run a b c d) (ins4 a b c d) obs0 w
  unfold evP evN scK addK at h
  simp only [kW_self] at h
  exact h
noncomputable def rDUnitE : Ent := entQ 23 (fun a b c d => qv (evenW a b c d)) (fun _ _ _ _ => goodC_qv _) refDUnit
/-! ### The field -/
def mgR (q0 q1 q2 q3 f0 f1 f2 : Int) : Q4 := rateW (kW q0) (kW q1) (kW q2) (kW q3) (kW f0) (kW f1) (kW f2)
def mgH (r : Q4) (q0 q1 q2 q3 : Int) : Q4 := timesW (kW r.a.v) (kW r.b.v) (kW r.c.v) (kW r.d.v) (kW (kW q0).v) (kW (negK q1)) (kW (negK q2)) (kW (negK q3))
def mgB (h : Q4) : Int := (sqrtW (kW (addK (mulK h.b.v h.b.v) (mulK h.c.v h.c.v)))).v
def mgE0 (q0 q1 q2 q3 bx bz f : Int) : Int := subK (addK (mulK bx (subK (subK 536870912 (mulK q2 q2)) (mulK q3 q3))) (mulK bz (subK (mulK q1 q3) (mulK q0 q2)))) (sarK f 1)
def mgE1 (q0 q1 q2 q3 bx bz f : Int) : Int := subK (addK (mulK bx (subK (mulK q1 q2) (mulK q0 q3))) (mulK bz (addK (mulK q0 q1) (mulK q2 q3)))) (sarK f 1)
def mgE2 (q0 q1 q2 q3 bx bz f : Int) : Int := subK (addK (mulK bx (addK (mulK q0 q2) (mulK q1 q3))) (mulK bz (subK (subK 536870912 (mulK q1 q1)) (mulK q2 q2)))) (sarK f 1)
def sumK (a b c e0 e1 e2 : Int) : Int := sarK (addK (addK (mulK a e0) (mulK b e1)) (mulK c e2)) 1
def mgOf (x0 x1 x2 x3 y0 y1 y2 y3 e0 e1 e2 : Int) : Value := qI
  (sumK (negK y2) (subK y1 x3) x2 e0 e1 e2)
  (sumK y3 (addK x2 y0) (subK (subK x3 y1) y1) e0 e1 e2)
  (sumK (negK (addK (addK x2 x2) y0)) (addK x1 y3) (subK (subK x0 y2) y2) e0 e1 e2)
  (sumK (subK (subK y1 x3) x3) (subK y2 x0) x1 e0 e1 e2)
def mgK (q0 q1 q2 q3 f0 f1 f2 bx bz : Int) : Value := mgOf (mulK bx q0) (mulK bx q1) (mulK bx q2) (mulK bx q3) (mulK bz q0) (mulK bz q1) (mulK bz q2) (mulK bz q3) (mgE0 q0 q1 q2 q3 bx bz f0) (mgE1 q0 q1 q2 q3 bx bz f1) (mgE2 q0 q1 q2 q3 bx bz f2)
def mgAll (q0 q1 q2 q3 f0 f1 f2 : Int) (h : Q4) : Value := mgK q0 q1 q2 q3 f0 f1 f2 (mgB h) h.d.v
def mgS : List (FuncId × Sh) := (50, .agg 4) :: (49, .agg 4) :: (51, .agg 4) :: (40, .one) :: wS
noncomputable def mgT : List Ent := rateE :: timesE :: conjE :: sqrtE :: wT
set_option maxRecDepth 100000 in
theorem mag_run (q0 q1 q2 q3 f0 f1 f2 : Wd) : runP (cxR [] mgS []) (tabOf mgT) 400 21 [.agg (opqs 4 0), .agg (opqs 3 4)] (in7 q0 q1 q2 q3 f0 f1 f2) = some (mgAll q0.v q1.v q2.v q3.v f0.v f1.v f2.v (mgH (mgR q0.v q1.v q2.v q3.v f0.v f1.v f2.v) q0.v q1.v q2.v q3.v), []) := by kernel_rfl
theorem mgOf_eq (x y : Q4) (e : T3) : mgOf x.a.v x.b.v x.c.v x.d.v y.a.v y.b.v y.c.v y.d.v e.a.v e.b.v e.c.v = qv (Go.Proofs.YtkfkoobdmnndcaaGreat.fieldOf x y e) := by
  unfold mgOf sumK negK subK addK mulK sarK Go.Proofs.YtkfkoobdmnndcaaGreat.fieldOf sumW
  simp only [kW_self]
  rw [down_eq _ (by decide : In32 1), down_eq _ (by decide : In32 1), down_eq _ (by decide : In32 1), down_eq _ (by decide : In32 1)]
  rfl
theorem mgErr (q0 q1 q2 q3 bx bz f0 f1 f2 : Wd) : mgE0 q0.v q1.v q2.v q3.v bx.v bz.v f0.v = (errorsW q0 q1 q2 q3 bx bz f0 f1 f2).a.v ∧ mgE1 q0.v q1.v q2.v q3.v bx.v bz.v f1.v = (errorsW q0 q1 q2 q3 bx bz f0 f1 f2).b.v ∧ mgE2 q0.v q1.v q2.v q3.v bx.v bz.v f2.v = (errorsW q0 q1 q2 q3 bx bz f0 f1 f2).c.v := by
  unfold mgE0 mgE1 mgE2 subK addK mulK sarK errorsW
  simp only [kW_self]
  rw [down_eq f0 (by decide : In32 1), down_eq f1 (by decide : In32 1), down_eq f2 (by decide : In32 1)]
  exact ⟨rfl, rfl, rfl⟩
theorem mul_K (a b : Wd) : mulK a.v b.v = (mulqW a b).v := by unfold mulK; rw [kW_self, kW_self]
theorem mgK_eq (q0 q1 q2 q3 f0 f1 f2 bx bz : Wd) : mgK q0.v q1.v q2.v q3.v f0.v f1.v f2.v bx.v bz.v = qv (Go.Proofs.YtkfkoobdmnndcaaGreat.fieldOf ⟨mulqW bx q0, mulqW bx q1, mulqW bx q2, mulqW bx q3⟩ ⟨mulqW bz q0, mulqW bz q1, mulqW bz q2, mulqW bz q3⟩ (errorsW q0 q1 q2 q3 bx bz f0 f1 f2)) := by
  obtain ⟨e0, e1, e2⟩ := mgErr q0 q1 q2 q3 bx bz f0 f1 f2
  rw [← mgOf_eq]
  unfold mgK
  rw [e0, e1, e2]
  simp only [mul_K]
theorem mgH_eq (q0 q1 q2 q3 f0 f1 f2 : Wd) : mgH (mgR q0.v q1.v q2.v q3.v f0.v f1.v f2.v) q0.v q1.v q2.v q3.v = fieldH q0 q1 q2 q3 f0 f1 f2 := by
  unfold mgH mgR negK fieldH
  simp only [kW_self]
theorem mgB_eq (h : Q4) : mgB h = (sqrtW (normW h.b [h.c])).v := by
  unfold mgB addK mulK
  simp only [kW_self]
  rfl
theorem refDMag (q0 q1 q2 q3 f0 f1 f2 : Wd) (w : World) : Calls Tryz.prog 21 #[q4 q0 q1 q2 q3, v3 f0 f1 f2] w fun e w' => e = .returned (qv (fieldW q0 q1 q2 q3 f0 f1 f2)) ∧ Chg w w' [] := by
  have h := cxR_calls _ (mag_run q0 q1 q2 q3 f0 f1 f2) (ins7 q0 q1 q2 q3 f0 f1 f2) obs0 w
  have e : mgAll q0.v q1.v q2.v q3.v f0.v f1.v f2.v (mgH (mgR q0.v q1.v q2.v q3.v f0.v f1.v f2.v) q0.v q1.v q2.v q3.v) = qv (fieldW q0 q1 q2 q3 f0 f1 f2) := by
    unfold mgAll
    rw [mgH_eq, mgB_eq]
    have e2 : (fieldH q0 q1 q2 q3 f0 f1 f2).d = fieldZ q0 q1 q2 q3 f0 f1 f2 := rfl
    have e3 : sqrtW (normW (fieldH q0 q1 q2 q3 f0 f1 f2).b [(fieldH q0 q1 q2 q3 f0 f1 f2).c]) = fieldB q0 q1 q2 q3 f0 f1 f2 := rfl
    rw [e2, e3, mgK_eq]
    unfold fieldW fieldX fieldY fieldE
    rfl
  rw [e] at h
  exact h
noncomputable def rDMagE : Ent := entQV 21 (fun a b c d x y z => qv (fieldW a b c d x y z)) (fun _ _ _ _ _ _ _ => goodC_qv _) refDMag
end Go.Proofs.YtkfkoobdmnndcaaGreat.Xi
