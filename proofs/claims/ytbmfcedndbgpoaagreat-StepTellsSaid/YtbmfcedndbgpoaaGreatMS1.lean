/- Texts of this claim, side by side: RunH, PureW, RunN, RunO, Open. -/
import Derived.Test.YtbmfcedndbgpoaaGreatRunG
import Derived.Test.YtbmfcedndbgpoaaGreatWorks9
import Derived.Test.YtbmfcedndbgpoaaGreatMillM
import Derived.Test.YtbmfcedndbgpoaaGreatTab
import Derived.Test.YtbmfcedndbgpoaaGreatNext
import Derived.Test.YtbmfcedndbgpoaaGreatAwake34
import Derived.Test.YtbmfcedndbgpoaaGreatStill
import Derived.Test.YtbmfcedndbgpoaaGreatMem
import Derived.WalkKit
import Derived.ProofKit
import Derived.OpenShut
import Derived.Deep.Slices
/- Layers 10 and 33: the reference's products, rates, pull, field are the program's. -/
namespace Go.Proofs.YtbmfcedndbgpoaaGreat.Xi
open Go Go.RowKit
set_option linter.unusedVariables false
def RQ (F : Wd → Wd → Wd → Wd → Value) : List PA → Option Value
  | [.a [a, b, c, d]] => some (F a b c d)
  | _ => none
def entQ (f : FuncId) (F : Wd → Wd → Wd → Wd → Value) (hR : ∀ a b c d, goodC (F a b c d)) (h : ∀ (a b c d : Wd) (w : World), Calls Tryz.prog f #[q4 a b c d] w fun e w' => e = .returned (F a b c d) ∧ Chg w w' []) : Ent :=
  entP f (RQ F) fun ps v hv => by
    unfold RQ at hv
    split at hv
    · injection hv with hv
      subst hv
      exact ⟨hR _ _ _ _, h _ _ _ _⟩
    · cases hv
def RQV (F : Wd → Wd → Wd → Wd → Wd → Wd → Wd → Value) : List PA → Option Value
  | [.a [a, b, c, d], .a [x, y, z]] => some (F a b c d x y z)
  | _ => none
def entQV (f : FuncId) (F : Wd → Wd → Wd → Wd → Wd → Wd → Wd → Value) (hR : ∀ a b c d x y z, goodC (F a b c d x y z)) (h : ∀ (a b c d x y z : Wd) (w : World), Calls Tryz.prog f #[q4 a b c d, q3 x y z] w fun e w' => e = .returned (F a b c d x y z) ∧ Chg w w' []) : Ent :=
  entP f (RQV F) fun ps v hv => by
    unfold RQV at hv
    split at hv
    · injection hv with hv
      subst hv
      exact ⟨hR _ _ _ _ _ _ _, h _ _ _ _ _ _ _⟩
    · cases hv
def RQQ (F : Wd → Wd → Wd → Wd → Wd → Wd → Wd → Wd → Value) : List PA → Option Value
  | [.a [a, b, c, d], .a [x, y, z, t]] => some (F a b c d x y z t)
  | _ => none
def entQQ (f : FuncId) (F : Wd → Wd → Wd → Wd → Wd → Wd → Wd → Wd → Value) (hR : ∀ a b c d x y z t, goodC (F a b c d x y z t)) (h : ∀ (a b c d x y z t : Wd) (w : World), Calls Tryz.prog f #[q4 a b c d, q4 x y z t] w fun e w' => e = .returned (F a b c d x y z t) ∧ Chg w w' []) : Ent :=
  entP f (RQQ F) fun ps v hv => by
    unfold RQQ at hv
    split at hv
    · injection hv with hv
      subst hv
      exact ⟨hR _ _ _ _ _ _ _ _, h _ _ _ _ _ _ _ _⟩
    · cases hv
abbrev v3 (a b c : Wd) : Value := q3 a b c
def qv (x : Q4) : Value := q4 x.a x.b x.c x.d
def qI (a b c d : Int) : Value := .agg #[.int .i32 a, .int .i32 b, .int .i32 c, .int .i32 d]
theorem goodC_qv (x : Q4) : goodC (qv x) := goodC_q4 _ _ _ _
def negK (a : Int) : Int := (negW (kW a)).v
def in4 (a b c d : Wd) : List Value := [.int .i32 a.v, .int .i32 b.v, .int .i32 c.v, .int .i32 d.v]
def in7 (a b c d x y z : Wd) : List Value := [.int .i32 a.v, .int .i32 b.v, .int .i32 c.v, .int .i32 d.v, .int .i32 x.v, .int .i32 y.v, .int .i32 z.v]
def in8 (a b c d x y z t : Wd) : List Value := [.int .i32 a.v, .int .i32 b.v, .int .i32 c.v, .int .i32 d.v, .int .i32 x.v, .int .i32 y.v, .int .i32 z.v, .int .i32 t.v]
theorem ins4 (a b c d : Wd) : goodL (in4 a b c d) := goodL_l [a, b, c, d]
theorem ins7 (a b c d x y z : Wd) : goodL (in7 a b c d x y z) := goodL_l [a, b, c, d, x, y, z]
theorem ins8 (a b c d x y z t : Wd) : goodL (in8 a b c d x y z t) := goodL_l [a, b, c, d, x, y, z, t]
def wS : List (FuncId × Sh) := [(88, .one), (51, .one), (53, .one), (70, .one), (75, .one)]
noncomputable def wT : List Ent := [mulqE, addE, subE, negE, sarE]
/-! ### Layer 10 -/
set_option maxRecDepth 100000 in
theorem qnorm_run (a b c d : Wd) : runP (cxR [] wS []) (tabOf wT) 300 72 [.agg (opqs 4 0)] (in4 a b c d) = some (.int .i32 (addK (addK (addK (mulK a.v a.v) (mulK b.v b.v)) (mulK c.v c.v)) (mulK d.v d.v)), []) := by kernel_rfl
theorem refQNorm (a b c d : Wd) (w : World) : Calls Tryz.prog 72 #[q4 a b c d] w fun e w' => e = .returned (.int .i32 (normW a [b, c, d]).v) ∧ Chg w w' [] := by
  have h := cxR_calls _ (qnorm_run a b c d) (ins4 a b c d) obs0 w
  unfold addK mulK at h
  simp only [kW_self] at h
  exact h
noncomputable def qnormE : Ent := entQ 72 (fun a b c d => .int .i32 (normW a [b, c, d]).v) (fun _ _ _ _ => goodC_w _) refQNorm
set_option maxRecDepth 100000 in
theorem conj_run (a b c d : Wd) : runP (cxR [] wS []) (tabOf wT) 300 69 [.agg (opqs 4 0)] (in4 a b c d) = some (qI a.v (negK b.v) (negK c.v) (negK d.v), []) := by kernel_rfl
theorem refConj (a b c d : Wd) (w : World) : Calls Tryz.prog 69 #[q4 a b c d] w fun e w' => e = .returned (q4 a (negW b) (negW c) (negW d)) ∧ Chg w w' [] := by
  have h := cxR_calls _ (conj_run a b c d) (ins4 a b c d) obs0 w
  unfold negK at h
  simp only [kW_self] at h
  exact h
noncomputable def conjE : Ent := entQ 69 (fun a b c d => q4 a (negW b) (negW c) (negW d)) (fun _ _ _ _ => goodC_q4 _ _ _ _) refConj
def timesK (p0 p1 p2 p3 q0 q1 q2 q3 : Int) : Value := qI
  (subK (subK (subK (mulK p0 q0) (mulK p1 q1)) (mulK p2 q2)) (mulK p3 q3))
  (subK (addK (addK (mulK p0 q1) (mulK p1 q0)) (mulK p2 q3)) (mulK p3 q2))
  (addK (addK (subK (mulK p0 q2) (mulK p1 q3)) (mulK p2 q0)) (mulK p3 q1))
  (addK (subK (addK (mulK p0 q3) (mulK p1 q2)) (mulK p2 q1)) (mulK p3 q0))
set_option maxRecDepth 100000 in
theorem times_run (p0 p1 p2 p3 q0 q1 q2 q3 : Wd) : runP (cxR [] wS []) (tabOf wT) 300 67 [.agg (opqs 4 0), .agg (opqs 4 4)] (in8 p0 p1 p2 p3 q0 q1 q2 q3) = some (timesK p0.v p1.v p2.v p3.v q0.v q1.v q2.v q3.v, []) := by kernel_rfl
theorem refTimes (p0 p1 p2 p3 q0 q1 q2 q3 : Wd) (w : World) : Calls Tryz.prog 67 #[q4 p0 p1 p2 p3, q4 q0 q1 q2 q3] w fun e w' => e = .returned (qv (timesW p0 p1 p2 p3 q0 q1 q2 q3)) ∧ Chg w w' [] := by
  have h := cxR_calls _ (times_run p0 p1 p2 p3 q0 q1 q2 q3) (ins8 p0 p1 p2 p3 q0 q1 q2 q3) obs0 w
  unfold timesK addK subK mulK at h
  simp only [kW_self] at h
  exact h
noncomputable def timesE : Ent := entQQ 67 (fun a b c d x y z t => qv (timesW a b c d x y z t)) (fun _ _ _ _ _ _ _ _ => goodC_qv _) refTimes
def rateK (q0 q1 q2 q3 w0 w1 w2 : Int) : Value := qI
  (subK (subK (subK 0 (mulK q1 w0)) (mulK q2 w1)) (mulK q3 w2))
  (subK (addK (mulK q0 w0) (mulK q2 w2)) (mulK q3 w1))
  (addK (subK (mulK q0 w1) (mulK q1 w2)) (mulK q3 w0))
  (subK (addK (mulK q0 w2) (mulK q1 w1)) (mulK q2 w0))
set_option maxRecDepth 100000 in
theorem rate_run (q0 q1 q2 q3 w0 w1 w2 : Wd) : runP (cxR [] wS []) (tabOf wT) 300 68 [.agg (opqs 4 0), .agg (opqs 3 4)] (in7 q0 q1 q2 q3 w0 w1 w2) = some (rateK q0.v q1.v q2.v q3.v w0.v w1.v w2.v, []) := by kernel_rfl
theorem refRate (q0 q1 q2 q3 w0 w1 w2 : Wd) (w : World) : Calls Tryz.prog 68 #[q4 q0 q1 q2 q3, v3 w0 w1 w2] w fun e w' => e = .returned (qv (rateW q0 q1 q2 q3 w0 w1 w2)) ∧ Chg w w' [] := by
  have h := cxR_calls _ (rate_run q0 q1 q2 q3 w0 w1 w2) (ins7 q0 q1 q2 q3 w0 w1 w2) obs0 w
  unfold rateK addK subK mulK at h
  simp only [kW_self] at h
  exact h
noncomputable def rateE : Ent := entQV 68 (fun a b c d x y z => qv (rateW a b c d x y z)) (fun _ _ _ _ _ _ _ => goodC_qv _) refRate
/-! ### Layer 33 -/
def imF0 (q0 q1 q2 q3 a : Int) : Int := subK (subK (mulK q1 q3) (mulK q0 q2)) (sarK a 1)
def imF1 (q0 q1 q2 q3 a : Int) : Int := subK (addK (mulK q0 q1) (mulK q2 q3)) (sarK a 1)
def imF2 (q1 q2 a : Int) : Int := subK (subK (subK 536870912 (mulK q1 q1)) (mulK q2 q2)) (sarK a 1)
def imK (q0 q1 q2 q3 f0 f1 f2 : Int) : Value := qI (sarK (subK (mulK q1 f1) (mulK q2 f0)) 1) (subK (sarK (addK (mulK q3 f0) (mulK q0 f1)) 1) (mulK q1 f2)) (subK (sarK (subK (mulK q3 f1) (mulK q0 f0)) 1) (mulK q2 f2)) (sarK (addK (mulK q1 f0) (mulK q2 f1)) 1)
set_option maxRecDepth 100000 in
theorem imu_run (q0 q1 q2 q3 a0 a1 a2 : Wd) : runP (cxR [] wS []) (tabOf wT) 300 30 [.agg (opqs 4 0), .agg (opqs 3 4)] (in7 q0 q1 q2 q3 a0 a1 a2) = some (imK q0.v q1.v q2.v q3.v (imF0 q0.v q1.v q2.v q3.v a0.v) (imF1 q0.v q1.v q2.v q3.v a1.v) (imF2 q1.v q2.v a2.v), []) := by kernel_rfl
theorem refImu (q0 q1 q2 q3 a0 a1 a2 : Wd) (w : World) : Calls Tryz.prog 30 #[q4 q0 q1 q2 q3, v3 a0 a1 a2] w fun e w' => e = .returned (qv (pullW q0 q1 q2 q3 a0 a1 a2)) ∧ Chg w w' [] := by
  have h := cxR_calls _ (imu_run q0 q1 q2 q3 a0 a1 a2) (ins7 q0 q1 q2 q3 a0 a1 a2) obs0 w
  have e0 : imF0 q0.v q1.v q2.v q3.v a0.v = (pullF0 q0 q1 q2 q3 a0).v := by
    unfold imF0 subK mulK sarK pullF0; simp only [kW_self]; rw [down_eq _ (by decide : In32 1)]; rfl
  have e1 : imF1 q0.v q1.v q2.v q3.v a1.v = (pullF1 q0 q1 q2 q3 a1).v := by
    unfold imF1 subK addK mulK sarK pullF1; simp only [kW_self]; rw [down_eq _ (by decide : In32 1)]; rfl
  have e2 : imF2 q1.v q2.v a2.v = (pullF2 q1 q2 a2).v := by
    unfold imF2 subK mulK sarK pullF2; simp only [kW_self]; rw [down_eq _ (by decide : In32 1)]; rfl
  rw [e0, e1, e2] at h
  have e : qv (pullW q0 q1 q2 q3 a0 a1 a2) = imK q0.v q1.v q2.v q3.v (pullF0 q0 q1 q2 q3 a0).v (pullF1 q0 q1 q2 q3 a1).v (pullF2 q1 q2 a2).v := by
    unfold pullW
    generalize pullF0 q0 q1 q2 q3 a0 = f0
    generalize pullF1 q0 q1 q2 q3 a1 = f1
    generalize pullF2 q1 q2 a2 = f2
    unfold imK pullOf subK addK mulK sarK
    simp only [kW_self]
    rw [down_eq _ (by decide : In32 1), down_eq _ (by decide : In32 1), down_eq _ (by decide : In32 1), down_eq _ (by decide : In32 1)]
    rfl
  rw [e]
  exact h
noncomputable def rImuE : Ent := entQV 30 (fun a b c d x y z => qv (pullW a b c d x y z)) (fun _ _ _ _ _ _ _ => goodC_qv _) refImu
def evS : List (FuncId × Sh) := [(72, .one), (51, .one), (47, .two .one .one), (48, .one)]
noncomputable def evT : List Ent := [qnormE, addE, rsqrtE, scaleE]
def evN (a b c d : Int) : Wd := kW (addK (normW (kW a) [kW b, kW c, kW d]).v 1024)
def evP (a b c d x : Int) : Int := scK x (rootW (evN a b c d)).1.v (rootW (evN a b c d)).2.v
set_option maxRecDepth 100000 in
theorem dunit_run (a b c d : Wd) : runP (cxR [] evS []) (tabOf evT) 300 34 [.agg (opqs 4 0)] (in4 a b c d) = some (qI (evP a.v b.v c.v d.v a.v) (evP a.v b.v c.v d.v b.v) (evP a.v b.v c.v d.v c.v) (evP a.v b.v c.v d.v d.v), []) := by kernel_rfl
theorem refDUnit (a b c d : Wd) (w : World) : Calls Tryz.prog 34 #[q4 a b c d] w fun e w' => e = .returned (qv (evenW a b c d)) ∧ Chg w w' [] := by
  have h := cxR_calls _ (dunit_run a b c d) (ins4 a b c d) obs0 w
  unfold evP evN scK addK at h
  simp only [kW_self] at h
  exact h
noncomputable def rDUnitE : Ent := entQ 34 (fun a b c d => qv (evenW a b c d)) (fun _ _ _ _ => goodC_qv _) refDUnit
/-! ### The field -/
def mgR (q0 q1 q2 q3 f0 f1 f2 : Int) : Q4 := rateW (kW q0) (kW q1) (kW q2) (kW q3) (kW f0) (kW f1) (kW f2)
def mgH (r : Q4) (q0 q1 q2 q3 : Int) : Q4 := timesW (kW r.a.v) (kW r.b.v) (kW r.c.v) (kW r.d.v) (kW (kW q0).v) (kW (negK q1)) (kW (negK q2)) (kW (negK q3))
def mgB (h : Q4) : Int := (sqrtW (kW (addK (mulK h.b.v h.b.v) (mulK h.c.v h.c.v)))).v
def mgE0 (q0 q1 q2 q3 bx bz f : Int) : Int := subK (addK (mulK bx (subK (subK 536870912 (mulK q2 q2)) (mulK q3 q3))) (mulK bz (subK (mulK q1 q3) (mulK q0 q2)))) (sarK f 1)
def mgE1 (q0 q1 q2 q3 bx bz f : Int) : Int := subK (addK (mulK bx (subK (mulK q1 q2) (mulK q0 q3))) (mulK bz (addK (mulK q0 q1) (mulK q2 q3)))) (sarK f 1)
def mgE2 (q0 q1 q2 q3 bx bz f : Int) : Int := subK (addK (mulK bx (addK (mulK q0 q2) (mulK q1 q3))) (mulK bz (subK (subK 536870912 (mulK q1 q1)) (mulK q2 q2)))) (sarK f 1)
def sumK (a b c e0 e1 e2 : Int) : Int := sarK (addK (addK (mulK a e0) (mulK b e1)) (mulK c e2)) 1
def mgOf (x0 x1 x2 x3 y0 y1 y2 y3 e0 e1 e2 : Int) : Value := qI
  (sumK (negK y2) (subK y1 x3) x2 e0 e1 e2)
  (sumK y3 (addK x2 y0) (subK (subK x3 y1) y1) e0 e1 e2)
  (sumK (negK (addK (addK x2 x2) y0)) (addK x1 y3) (subK (subK x0 y2) y2) e0 e1 e2)
  (sumK (subK (subK y1 x3) x3) (subK y2 x0) x1 e0 e1 e2)
def mgK (q0 q1 q2 q3 f0 f1 f2 bx bz : Int) : Value := mgOf (mulK bx q0) (mulK bx q1) (mulK bx q2) (mulK bx q3) (mulK bz q0) (mulK bz q1) (mulK bz q2) (mulK bz q3) (mgE0 q0 q1 q2 q3 bx bz f0) (mgE1 q0 q1 q2 q3 bx bz f1) (mgE2 q0 q1 q2 q3 bx bz f2)
def mgAll (q0 q1 q2 q3 f0 f1 f2 : Int) (h : Q4) : Value := mgK q0 q1 q2 q3 f0 f1 f2 (mgB h) h.d.v
def mgS : List (FuncId × Sh) := (68, .agg 4) :: (67, .agg 4) :: (69, .agg 4) :: (54, .one) :: wS
noncomputable def mgT : List Ent := rateE :: timesE :: conjE :: sqrtE :: wT
set_option maxRecDepth 100000 in
theorem mag_run (q0 q1 q2 q3 f0 f1 f2 : Wd) : runP (cxR [] mgS []) (tabOf mgT) 400 32 [.agg (opqs 4 0), .agg (opqs 3 4)] (in7 q0 q1 q2 q3 f0 f1 f2) = some (mgAll q0.v q1.v q2.v q3.v f0.v f1.v f2.v (mgH (mgR q0.v q1.v q2.v q3.v f0.v f1.v f2.v) q0.v q1.v q2.v q3.v), []) := by kernel_rfl
theorem mgOf_eq (x y : Q4) (e : T3) : mgOf x.a.v x.b.v x.c.v x.d.v y.a.v y.b.v y.c.v y.d.v e.a.v e.b.v e.c.v = qv (Go.Proofs.YtbmfcedndbgpoaaGreat.fieldOf x y e) := by
  unfold mgOf sumK negK subK addK mulK sarK Go.Proofs.YtbmfcedndbgpoaaGreat.fieldOf sumW
  simp only [kW_self]
  rw [down_eq _ (by decide : In32 1), down_eq _ (by decide : In32 1), down_eq _ (by decide : In32 1), down_eq _ (by decide : In32 1)]
  rfl
theorem mgErr (q0 q1 q2 q3 bx bz f0 f1 f2 : Wd) : mgE0 q0.v q1.v q2.v q3.v bx.v bz.v f0.v = (errorsW q0 q1 q2 q3 bx bz f0 f1 f2).a.v ∧ mgE1 q0.v q1.v q2.v q3.v bx.v bz.v f1.v = (errorsW q0 q1 q2 q3 bx bz f0 f1 f2).b.v ∧ mgE2 q0.v q1.v q2.v q3.v bx.v bz.v f2.v = (errorsW q0 q1 q2 q3 bx bz f0 f1 f2).c.v := by
  unfold mgE0 mgE1 mgE2 subK addK mulK sarK errorsW
  simp only [kW_self]
  rw [down_eq f0 (by decide : In32 1), down_eq f1 (by decide : In32 1), down_eq f2 (by decide : In32 1)]
  exact ⟨rfl, rfl, rfl⟩
theorem mul_K (a b : Wd) : mulK a.v b.v = (mulqW a b).v := by unfold mulK; rw [kW_self, kW_self]
theorem mgK_eq (q0 q1 q2 q3 f0 f1 f2 bx bz : Wd) : mgK q0.v q1.v q2.v q3.v f0.v f1.v f2.v bx.v bz.v = qv (Go.Proofs.YtbmfcedndbgpoaaGreat.fieldOf ⟨mulqW bx q0, mulqW bx q1, mulqW bx q2, mulqW bx q3⟩ ⟨mulqW bz q0, mulqW bz q1, mulqW bz q2, mulqW bz q3⟩ (errorsW q0 q1 q2 q3 bx bz f0 f1 f2)) := by
  obtain ⟨e0, e1, e2⟩ := mgErr q0 q1 q2 q3 bx bz f0 f1 f2
  rw [← mgOf_eq]
  unfold mgK
  rw [e0, e1, e2]
  simp only [mul_K]
theorem mgH_eq (q0 q1 q2 q3 f0 f1 f2 : Wd) : mgH (mgR q0.v q1.v q2.v q3.v f0.v f1.v f2.v) q0.v q1.v q2.v q3.v = fieldH q0 q1 q2 q3 f0 f1 f2 := by
  unfold mgH mgR negK fieldH
  simp only [kW_self]
theorem mgB_eq (h : Q4) : mgB h = (sqrtW (normW h.b [h.c])).v := by
  unfold mgB addK mulK
  simp only [kW_self]
  rfl
theorem refDMag (q0 q1 q2 q3 f0 f1 f2 : Wd) (w : World) : Calls Tryz.prog 32 #[q4 q0 q1 q2 q3, v3 f0 f1 f2] w fun e w' => e = .returned (qv (fieldW q0 q1 q2 q3 f0 f1 f2)) ∧ Chg w w' [] := by
  have h := cxR_calls _ (mag_run q0 q1 q2 q3 f0 f1 f2) (ins7 q0 q1 q2 q3 f0 f1 f2) obs0 w
  have e : mgAll q0.v q1.v q2.v q3.v f0.v f1.v f2.v (mgH (mgR q0.v q1.v q2.v q3.v f0.v f1.v f2.v) q0.v q1.v q2.v q3.v) = qv (fieldW q0 q1 q2 q3 f0 f1 f2) := by
    unfold mgAll
    rw [mgH_eq, mgB_eq]
    have e2 : (fieldH q0 q1 q2 q3 f0 f1 f2).d = fieldZ q0 q1 q2 q3 f0 f1 f2 := rfl
    have e3 : sqrtW (normW (fieldH q0 q1 q2 q3 f0 f1 f2).b [(fieldH q0 q1 q2 q3 f0 f1 f2).c]) = fieldB q0 q1 q2 q3 f0 f1 f2 := rfl
    rw [e2, e3, mgK_eq]
    unfold fieldW fieldX fieldY fieldE
    rfl
  rw [e] at h
  exact h
noncomputable def rDMagE : Ent := entQV 32 (fun a b c d x y z => qv (fieldW a b c d x y z)) (fun _ _ _ _ _ _ _ => goodC_qv _) refDMag
end Go.Proofs.YtbmfcedndbgpoaaGreat.Xi

/- Xi: pure runs whose unknown values are words. -/
namespace Go.Proofs.YtbmfcedndbgpoaaGreat.Xi
open Go Go.RowKit
set_option linter.unusedVariables false
set_option linter.unusedSimpArgs false
/-- A call's answer, as words. -/
structure EntW where
  f : FuncId
  fn : List MA → Option MO
  ok : ∀ us o, fn us = some o → ∀ w : World, Calls Tryz.prog f (us.map MA.val).toArray w fun e w' => e = .returned o.val ∧ Chg w w' []
def findW : List EntW → FuncId → Option EntW
  | [], _ => none
  | e :: l, f => bif Nat.beq e.f f then some e else findW l f
theorem findW_ok : ∀ {l : List EntW} {f : FuncId} {e : EntW}, findW l f = some e → e.f = f
  | [], f, e, h => by cases h
  | x :: l, f, e, h => by
    unfold findW at h
    cases hb : Nat.beq x.f f with
    | true =>
      rw [hb] at h
      injection h with h
      subst h
      exact beq_iff.1 hb
    | false => rw [hb] at h; exact findW_ok h
/-- What is to be shown besides: a call's answer, a test of words. -/
inductive OW where
  | call (f : FuncId) (us : List MA) (v : Value)
  | test (p : Pr) (xs : List Wd) (b : Bool)
def OWOk : OW → Prop
  | .call f us v => ∀ w : World, Calls Tryz.prog f (us.map MA.val).toArray w fun e w' => e = .returned v ∧ Chg w w' []
  | .test p xs b => PrOk Tryz.prog p (wvs xs) (.bool b)
def litV : AV → Option Value
  | .lit v => some v
  | _ => none
def runW (tab : List EntW) : List Ev → List Wd → List OW → Option (List Wd × List OW)
  | [], ρ, obs => some (ρ, obs)
  | .call f args out :: l, ρ, obs => match pms ρ args with
    | none => none
    | some us => match findW tab f with
      | some e => match e.fn us with
        | some o => match bo out o ρ with | some ρ' => fL ρ' fun ρ' => runW tab l ρ' obs | none => none
        | none => none
      | none => match litV out with | some v => runW tab l ρ (.call f us v :: obs) | none => none
  | .prim p xs out :: l, ρ, obs => match pwL ρ xs, out with
    | some ws, .lit (.bool b) => fL (ρ ++ [kW 0]) fun ρ' => runW tab l ρ' (.test p ws b :: obs)
    | _, _ => none
  | .loop _ _ _ _ _ :: _, _, _ => none
theorem runW_ok {tab : List EntW} : ∀ {δ : List Ev} {ρ ρ' : List Wd} {obs obs' : List OW}, runW tab δ ρ obs = some (ρ', obs') → (∀ ob ∈ obs', OWOk ob) →
    (∃ τ, ρ' = ρ ++ τ) ∧ (∀ ob ∈ obs, OWOk ob) ∧ ∀ ρF, ExtW ρ' ρF → RunL (PureM Tryz.prog) ρF δ () ()
  | [], ρ, ρ', obs, obs', h, ho => by
    unfold runW at h
    injection h with h; injection h with h1 h2
    subst h1 h2
    exact ⟨⟨[], by simp⟩, ho, fun _ _ => rfl⟩
  | .loop _ _ _ _ _ :: _, ρ, ρ', obs, obs', h, ho => by unfold runW at h; cases h
  | .call f args out :: l, ρ, ρ', obs, obs', h, ho => by
    unfold runW at h
    cases ha : pms ρ args with
    | none => rw [ha] at h; cases h
    | some us =>
      rw [ha] at h
      simp only [] at h
      cases hf : findW tab f with
      | some e =>
        rw [hf] at h
        simp only [] at h
        cases hv : e.fn us with
        | none => rw [hv] at h; cases h
        | some o =>
          rw [hv] at h
          simp only [] at h
          cases hb : bo out o ρ with
          | none => rw [hb] at h; cases h
          | some ρ1 =>
            rw [hb] at h
            simp only [fL_eq] at h
            obtain ⟨τ1, rfl, c1⟩ := bo_ok hb
            obtain ⟨⟨τ, rfl⟩, h3, h4⟩ := runW_ok (δ := l) h ho
            refine ⟨⟨τ1 ++ τ, by simp⟩, h3, fun ρF hF => ⟨(), ?_, h4 ρF hF⟩⟩
            intro w xs hxs
            have e1 := pms_ok hF.of_append.of_append ha hxs
            subst e1
            rw [c1 ρF hF.of_append]
            have := e.ok us o hv w
            rw [findW_ok hf] at this
            exact this
      | none =>
        rw [hf] at h
        simp only [] at h
        cases hl : litV out with
        | none => rw [hl] at h; cases h
        | some v =>
          rw [hl] at h
          simp only [] at h
          obtain ⟨⟨τ, rfl⟩, h3, h4⟩ := runW_ok (δ := l) h ho
          refine ⟨⟨τ, rfl⟩, fun ob hob => h3 ob (by simp [hob]), fun ρF hF => ⟨(), ?_, h4 ρF hF⟩⟩
          intro w xs hxs
          have e1 := pms_ok hF.of_append ha hxs
          subst e1
          have e2 : out = .lit v := by
            cases out <;> first | (injection hl with hl; rw [hl]) | cases hl
          subst e2
          have h5 : OWOk (.call f us v) := h3 _ (by simp)
          exact h5 w
  | .prim p xs out :: l, ρ, ρ', obs, obs', h, ho => by
    unfold runW at h
    cases hx : pwL ρ xs with
    | none => rw [hx] at h; cases h
    | some ws =>
      rw [hx] at h
      split at h
      · rename_i ws' b heq
        injection heq with heq
        subst heq
        simp only [fL_eq] at h
        obtain ⟨⟨τ, rfl⟩, h3, h4⟩ := runW_ok (δ := l) h ho
        refine ⟨⟨kW 0 :: τ, by simp⟩, fun ob hob => h3 ob (by simp [hob]), fun ρF hF => ⟨(), ⟨?_, rfl⟩, h4 ρF hF⟩⟩
        rw [pwL_ok hF.of_append.of_append hx]
        have h5 : OWOk (.test p ws b) := h3 _ (by simp)
        exact h5
      · cases h
/-- A pure run, as words. -/
def runPW (cx : Cx) (tab : List EntW) (fuel : Nat) (f : FuncId) (args : List AV) (ins : List Wd) : Option (MO × List OW) :=
  match aCall cx fuel f args ⟨.nil, 0, lenL ins⟩ with
  | some (v, _, δ) => bif v.lt 0 && ltL 0 args && inbL (lenL ins) args then (match runW tab δ ins [] with
    | some (ρ, obs) => match pout ρ v with | some o => some (o, obs) | none => none
    | none => none) else none
  | none => none
/-- A PURE RUN IS SO. -/
theorem pureW_calls {lits : List (FuncId × AV)} {shs : List (FuncId × Sh)} {br : List (Nat × Bool)} {tab : List EntW} {fuel : Nat} {f : FuncId} {args : List AV} {ins : List Wd} {o : MO} {obs : List OW}
    (h : runPW (cxR lits shs br) tab fuel f args ins = some (o, obs)) (ho : ∀ ob ∈ obs, OWOk ob) {vs : List Value} (hvs : concL (getW ins) args = vs) (w : World) :
    Calls Tryz.prog f vs.toArray w fun e w' => e = .returned o.val ∧ Chg w w' [] := by
  unfold runPW at h
  cases hc : aCall (cxR lits shs br) fuel f args ⟨.nil, 0, lenL ins⟩ with
  | none => rw [hc] at h; cases h
  | some q =>
    obtain ⟨v, g', δ⟩ := q
    rw [hc] at h
    simp only [] at h
    cases hk : (v.lt 0 && ltL 0 args && inbL (lenL ins) args) with
    | false => rw [hk] at h; cases h
    | true =>
      rw [hk] at h
      simp only [cond_true] at h
      simp only [Bool.and_eq_true] at hk
      obtain ⟨⟨k1, k2⟩, k3⟩ := hk
      cases hr : runW tab δ ins [] with
      | none => rw [hr] at h; cases h
      | some q2 =>
        obtain ⟨ρ, obs'⟩ := q2
        rw [hr] at h
        simp only [] at h
        cases hpo : pout ρ v with
        | none => rw [hpo] at h; cases h
        | some o' =>
          rw [hpo] at h
          injection h with h; injection h with h1 h2
          subst h1 h2
          obtain ⟨⟨τ, hτ⟩, _, hrun⟩ := runW_ok hr ho
          have hF : ExtW ρ (getW ρ).ρ := fun i x hx => by
            show wv (ρ.getD i _) = wv x
            simp [List.getD, hx]
          obtain ⟨_, hcall⟩ := aCall_ok (cx := cxR lits shs br) (M := PureM Tryz.prog) (ρv := (getW ρ).ρ) (by kernel_rfl) (fun t n g h => by cases h) (fun i => rfl) fuel f args ⟨.nil, 0, lenL ins⟩ v g' δ hc
          have hrep : Rep (PureM Tryz.prog) (getW ρ) () (⟨.nil, 0, lenL ins⟩ : G).at 0 w := ⟨trivial, (fun b B hb => by have := at_lt hb; cases this), (fun b b' B B' hb => by have := at_lt hb; cases this), (fun b B hb => by have := at_lt hb; cases this), (fun b B hb => at_lt hb)⟩
          have hcl := hcall (getW ρ) () () w rfl hrep (fun u hu => by
            unfold AV.lt
            rw [blt_iff, pow_eq]
            refine lt_of_bits fun q hq => ?_
            have := ltL_bit k2 (mskL_mem hu hq)
            omega) (hrun _ hF)
          have hFi : ExtW ins (getW ρ).ρ := by subst hτ; exact hF.of_append
          have eargs : concL (getW ρ) args = vs := by
            rw [← hvs]
            exact inbL_conc hFi args k3
          rw [eargs] at hcl
          refine hcl.mono ?_
          rintro e w' ⟨E', rfl, hw⟩
          refine ⟨?_, ?_⟩
          · rw [conc_zero (E := getW ρ) (E' := E') k1 hw.rho]
            have := pout_ok hF hpo
            rw [show v.conc (getW ρ) = o'.val from this]
          · refine Fr.chg (hw.fr.more fun k _ hk => ?_)
            rcases hk with hk | ⟨b, B, hb, _⟩
            · exact hk
            · have := at_lt hb; cases this
/-! ### Entries -/
def W1 (F : Wd → MO) : List MA → Option MO
  | [.w a] => some (F a)
  | _ => none
def W2 (F : Wd → Wd → MO) : List MA → Option MO
  | [.w a, .w b] => some (F a b)
  | _ => none
def W3 (F : Wd → Wd → Wd → MO) : List MA → Option MO
  | [.w a, .w b, .w c] => some (F a b c)
  | _ => none
def WA3 (F : Wd → Wd → Wd → MO) : List MA → Option MO
  | [.a [a, b, c]] => some (F a b c)
  | _ => none
def WA4 (F : Wd → Wd → Wd → Wd → MO) : List MA → Option MO
  | [.a [a, b, c, d]] => some (F a b c d)
  | _ => none
def WA43 (F : Wd → Wd → Wd → Wd → Wd → Wd → Wd → MO) : List MA → Option MO
  | [.a [a, b, c, d], .a [x, y, z]] => some (F a b c d x y z)
  | _ => none
def ew1 (f : FuncId) (F : Wd → MO) (h : ∀ (a : Wd) (w : World), Calls Tryz.prog f #[.int .i32 a.v] w fun e w' => e = .returned (F a).val ∧ Chg w w' []) : EntW where
  f := f
  fn := W1 F
  ok := fun us o hv w => by
    unfold W1 at hv
    split at hv
    · injection hv with hv; subst hv; exact h _ w
    · cases hv
def ew2 (f : FuncId) (F : Wd → Wd → MO) (h : ∀ (a b : Wd) (w : World), Calls Tryz.prog f #[.int .i32 a.v, .int .i32 b.v] w fun e w' => e = .returned (F a b).val ∧ Chg w w' []) : EntW where
  f := f
  fn := W2 F
  ok := fun us o hv w => by
    unfold W2 at hv
    split at hv
    · injection hv with hv; subst hv; exact h _ _ w
    · cases hv
def ew3 (f : FuncId) (F : Wd → Wd → Wd → MO) (h : ∀ (a b c : Wd) (w : World), Calls Tryz.prog f #[.int .i32 a.v, .int .i32 b.v, .int .i32 c.v] w fun e w' => e = .returned (F a b c).val ∧ Chg w w' []) : EntW where
  f := f
  fn := W3 F
  ok := fun us o hv w => by
    unfold W3 at hv
    split at hv
    · injection hv with hv; subst hv; exact h _ _ _ w
    · cases hv
def ewA3 (f : FuncId) (F : Wd → Wd → Wd → MO) (h : ∀ (a b c : Wd) (w : World), Calls Tryz.prog f #[.agg #[.int .i32 a.v, .int .i32 b.v, .int .i32 c.v]] w fun e w' => e = .returned (F a b c).val ∧ Chg w w' []) : EntW where
  f := f
  fn := WA3 F
  ok := fun us o hv w => by
    unfold WA3 at hv
    split at hv
    · injection hv with hv; subst hv; exact h _ _ _ w
    · cases hv
def ewA4 (f : FuncId) (F : Wd → Wd → Wd → Wd → MO) (h : ∀ (a b c d : Wd) (w : World), Calls Tryz.prog f #[.agg #[.int .i32 a.v, .int .i32 b.v, .int .i32 c.v, .int .i32 d.v]] w fun e w' => e = .returned (F a b c d).val ∧ Chg w w' []) : EntW where
  f := f
  fn := WA4 F
  ok := fun us o hv w => by
    unfold WA4 at hv
    split at hv
    · injection hv with hv; subst hv; exact h _ _ _ _ w
    · cases hv
def ewA43 (f : FuncId) (F : Wd → Wd → Wd → Wd → Wd → Wd → Wd → MO) (h : ∀ (a b c d x y z : Wd) (w : World), Calls Tryz.prog f #[.agg #[.int .i32 a.v, .int .i32 b.v, .int .i32 c.v, .int .i32 d.v], .agg #[.int .i32 x.v, .int .i32 y.v, .int .i32 z.v]] w fun e w' => e = .returned (F a b c d x y z).val ∧ Chg w w' []) : EntW where
  f := f
  fn := WA43 F
  ok := fun us o hv w => by
    unfold WA43 at hv
    split at hv
    · injection hv with hv; subst hv; exact h _ _ _ _ _ _ _ w
    · cases hv
theorem ows0 : ∀ ob ∈ ([] : List OW), OWOk ob := fun ob h => by cases h
theorem owsC {a : OW} {l : List OW} (ha : OWOk a) (hl : ∀ ob ∈ l, OWOk ob) : ∀ ob ∈ a :: l, OWOk ob := fun ob h => by
  rcases List.mem_cons.1 h with rfl | h
  · exact ha
  · exact hl ob h
end Go.Proofs.YtbmfcedndbgpoaaGreat.Xi

/- Layer 34: the reference's step is the program's. StepTells, as a run. -/
namespace Go.Proofs.YtbmfcedndbgpoaaGreat.Xi
open Go Go.RowKit
set_option linter.unusedVariables false
def mq (x : Q4) : MO := .a [x.a, x.b, x.c, x.d]
def mt3 (x : T3) : MO := .a [x.a, x.b, x.c]
theorem mq_val (x : Q4) : (mq x).val = qv x := rfl
noncomputable def wNorm : EntW := ewA4 72 (fun a b c d => .w (normW a [b, c, d])) refQNorm
noncomputable def wRsqrt : EntW := ew1 47 (fun x => .t [.w (rootW x).1, .w (rootW x).2]) refRsqrt
noncomputable def wScale : EntW := ew3 48 (fun a z h => .w (scaledW a z h)) refScale
def quS : List (FuncId × Sh) := [(72, .one), (47, .two .one .one), (48, .one)]
set_option maxRecDepth 100000 in
theorem qunit_run (a b c d : Wd) : runPW (cxR [] quS []) [wNorm, wRsqrt, wScale] 200 77 [.agg (opqs 4 0)] [a, b, c, d] = some (mq (unitW a b c d), []) := by kernel_rfl
theorem refQUnit (a b c d : Wd) (w : World) : Calls Tryz.prog 77 #[q4 a b c d] w fun e w' => e = .returned (mq (unitW a b c d)).val ∧ Chg w w' [] := pureW_calls (qunit_run a b c d) ows0 rfl w
noncomputable def nxT : List EntW := [ew2 49 (fun a b => .w (shlW a b)) refShl, ew2 75 (fun a b => .w (sarW a b)) refSar, ew2 51 (fun a b => .w (addsW a b)) refAdd, ew2 53 (fun a b => .w (subsW a b)) refSub,
  ew3 76 (fun a b c => .w (clampW a b c)) refClamp, ewA43 68 (fun a b c d x y z => mq (rateW a b c d x y z)) refRate, ewA3 20 (fun a b c => mt3 (pointW a b c)) refGUnit,
  ewA43 30 (fun a b c d x y z => mq (pullW a b c d x y z)) refImu, ewA43 32 (fun a b c d x y z => mq (fieldW a b c d x y z)) refDMag, ewA4 34 (fun a b c d => mq (evenW a b c d)) refDUnit, ewA4 77 (fun a b c d => mq (unitW a b c d)) refQUnit]
def nxS : List (FuncId × Sh) := [(49, .one), (75, .one), (51, .one), (53, .one), (76, .one), (68, .agg 4), (20, .agg 3), (30, .agg 4), (32, .agg 4), (34, .agg 4), (77, .agg 4)]
def nxL (m t : Bool) : List (FuncId × AV) := [(18, .lit (.bool m)), (16, .lit (.bool t))]
def nxG (m : Bool) (P N : Q4) : Q4 := bif m then ⟨addsW P.a N.a, addsW P.b N.b, addsW P.c N.c, addsW P.d N.d⟩ else P
def nxB (t : Bool) (e : Wd) : Wd := bif t then sarW e (kW 8) else kW 0
noncomputable def nxV (t : Bool) (q r e : Wd) : Wd := addsW q (clampW (subsW r (nxB t e)) (kW (-134217728)) (kW 134217728))
def nxR (q0 q1 q2 q3 u0 u1 u2 : Wd) : Q4 := rateW q0 q1 q2 q3 (shlW u0 (kW 12)) (shlW u1 (kW 12)) (shlW u2 (kW 12))
def nxE (G : Q4) : Q4 := evenW G.a G.b G.c G.d
noncomputable def nxU (t : Bool) (q0 q1 q2 q3 : Wd) (R E : Q4) : Q4 := unitW (nxV t q0 R.a E.a) (nxV t q1 R.b E.b) (nxV t q2 R.c E.c) (nxV t q3 R.d E.d)
noncomputable def nxW (m t : Bool) (q0 q1 q2 q3 u0 u1 u2 a0 a1 a2 v0 v1 v2 : Wd) : Q4 := nxU t q0 q1 q2 q3 (nxR q0 q1 q2 q3 u0 u1 u2) (nxE (nxG m (sensedP q0 q1 q2 q3 a0 a1 a2) (sensedN q0 q1 q2 q3 v0 v1 v2)))
def nxF (m t : Bool) : Int := (bif m then 0 else 4) + (bif t then 0 else 2)
def nxO (m t : Bool) (a0 a1 a2 v0 v1 v2 : Wd) : List OW := [.call 16 [.a [a0, a1, a2]] (.bool t), .call 18 [.a [v0, v1, v2]] (.bool m)]
def nxA : List AV := [.agg (opqs 4 0), .agg (opqs 9 4)]
set_option maxRecDepth 100000 in
theorem next_run11 (q0 q1 q2 q3 u0 u1 u2 a0 a1 a2 v0 v1 v2 : Wd) : runPW (cxR (nxL true true) nxS []) nxT 300 37 nxA [q0, q1, q2, q3, u0, u1, u2, a0, a1, a2, v0, v1, v2] = some (.t [mq (nxW true true q0 q1 q2 q3 u0 u1 u2 a0 a1 a2 v0 v1 v2), .v (.int .i64 0)], nxO true true a0 a1 a2 v0 v1 v2) := by kernel_rfl
set_option maxRecDepth 100000 in
theorem next_run10 (q0 q1 q2 q3 u0 u1 u2 a0 a1 a2 v0 v1 v2 : Wd) : runPW (cxR (nxL true false) nxS []) nxT 300 37 nxA [q0, q1, q2, q3, u0, u1, u2, a0, a1, a2, v0, v1, v2] = some (.t [mq (nxW true false q0 q1 q2 q3 u0 u1 u2 a0 a1 a2 v0 v1 v2), .v (.int .i64 2)], nxO true false a0 a1 a2 v0 v1 v2) := by kernel_rfl
set_option maxRecDepth 100000 in
theorem next_run01 (q0 q1 q2 q3 u0 u1 u2 a0 a1 a2 v0 v1 v2 : Wd) : runPW (cxR (nxL false true) nxS []) nxT 300 37 nxA [q0, q1, q2, q3, u0, u1, u2, a0, a1, a2, v0, v1, v2] = some (.t [mq (nxW false true q0 q1 q2 q3 u0 u1 u2 a0 a1 a2 v0 v1 v2), .v (.int .i64 4)], nxO false true a0 a1 a2 v0 v1 v2) := by kernel_rfl
set_option maxRecDepth 100000 in
theorem next_run00 (q0 q1 q2 q3 u0 u1 u2 a0 a1 a2 v0 v1 v2 : Wd) : runPW (cxR (nxL false false) nxS []) nxT 300 37 nxA [q0, q1, q2, q3, u0, u1, u2, a0, a1, a2, v0, v1, v2] = some (.t [mq (nxW false false q0 q1 q2 q3 u0 u1 u2 a0 a1 a2 v0 v1 v2), .v (.int .i64 6)], nxO false false a0 a1 a2 v0 v1 v2) := by kernel_rfl
/-! ### The plain law -/
theorem andW_all (x m : Wd) (h : m.v = -1) : andW x m = x := Wd.ext_ (by show andI x.v m.v = x.v; rw [h]; exact and_all x.ok)
theorem andW_none (x m : Wd) (h : m.v = 0) : andW x m = kW 0 := Wd.ext_ (by show andI x.v m.v = (kW 0).v; rw [h, and_none]; decide +kernel)
theorem addsW_none (x : Wd) : addsW x (kW 0) = x := by
  apply Wd.ext_
  have := x.ok
  unfold In32 at this
  show satI (x.v + (kW 0).v) = x.v
  rw [kW_v (by decide)]
  unfold satI
  omega
theorem clamp_clip (x : Wd) : clampW x (kW (-134217728)) (kW 134217728) = clipW x := by
  apply Wd.ext_
  have e1 : (kW (-134217728)).v = -134217728 := kW_v (by decide)
  have e2 : (kW 134217728).v = 134217728 := kW_v (by decide)
  show _ = min (max x.v (kW (-134217728)).v) (kW 134217728).v
  unfold clampW
  rw [e1, e2]
  split <;> (try split) <;> (try split) <;> simp_all <;> omega
theorem down_is (P N : Q4) (g : Wd) (m : Bool) (h : g.v = bif m then -1 else 0) : downOf P N g = nxG m P N := by
  unfold downOf nxG
  cases m with
  | true => simp only [cond_true] at h ⊢; rw [andW_all _ _ h, andW_all _ _ h, andW_all _ _ h, andW_all _ _ h]
  | false => simp only [cond_false] at h ⊢; rw [andW_none _ _ h, andW_none _ _ h, andW_none _ _ h, andW_none _ _ h, addsW_none, addsW_none, addsW_none, addsW_none]
theorem part_is (q r e g : Wd) (t : Bool) (h : g.v = bif t then -1 else 0) : partW q r e g = nxV t q r e := by
  unfold partW nxV nxB
  rw [clamp_clip]
  cases t with
  | true => simp only [cond_true] at h ⊢; rw [andW_all _ _ h, down_eq _ (by decide : In32 8)]
  | false => simp only [cond_false] at h ⊢; rw [andW_none _ _ h]
theorem sensed_is (q0 q1 q2 q3 u0 u1 u2 a0 a1 a2 v0 v1 v2 : Wd) (m t : Bool) (hm : (sensedM v0 v1 v2).v = bif m then -1 else 0) (ht : (sensedA a0 a1 a2).v = bif t then -1 else 0) :
    sensedW q0 q1 q2 q3 u0 u1 u2 a0 a1 a2 v0 v1 v2 = nxW m t q0 q1 q2 q3 u0 u1 u2 a0 a1 a2 v0 v1 v2 := by
  unfold sensedW stepOf nxW nxU sensedE evenOf nxE rateOf nxR
  rw [down_is _ _ _ m hm]
  simp only [part_is _ _ _ _ t ht, up_eq _ (by decide : In32 12)]
theorem flags_is (a0 a1 a2 v0 v1 v2 : Wd) (m t : Bool) (hm : (sensedM v0 v1 v2).v = bif m then -1 else 0) (ht : (sensedA a0 a1 a2).v = bif t then -1 else 0) : flagsI (sensedA a0 a1 a2) (sensedM v0 v1 v2) = nxF m t := by
  unfold flagsI flagI nxF
  rw [hm, ht]
  cases m <;> cases t <;> rfl
theorem gate_01 (n : Wd) (lo hi : Int) : (withinW n (kW lo) (kW hi)).v = bif gateB n lo hi then -1 else 0 := by
  unfold gateB
  rcases within_01 n (kW lo) (kW hi) with h | h <;> rw [h] <;> rfl
theorem refNext (q0 q1 q2 q3 u0 u1 u2 a0 a1 a2 v0 v1 v2 : Wd) (w : World) : Calls Tryz.prog 37 #[q4 q0 q1 q2 q3, .agg #[.int .i32 u0.v, .int .i32 u1.v, .int .i32 u2.v, .int .i32 a0.v, .int .i32 a1.v, .int .i32 a2.v, .int .i32 v0.v, .int .i32 v1.v, .int .i32 v2.v]] w fun e w' =>
    e = .returned (.tuple #[qv (sensedW q0 q1 q2 q3 u0 u1 u2 a0 a1 a2 v0 v1 v2), .int .i64 (flagsI (sensedA a0 a1 a2) (sensedM v0 v1 v2))]) ∧ Chg w w' [] := by
  have hm := gate_01 (squareW v0 v1 v2) 1000000 400000000
  have ht := gate_01 (squareW a0 a1 a2) 16777216 150994944
  have om : OWOk (.call 18 [.a [v0, v1, v2]] (.bool (gateB (squareW v0 v1 v2) 1000000 400000000))) := fun w => by
    rw [← inside_ref v0 v1 v2 _ _ (by omega) (by omega)]
    exact refMag_calls v0.v v1.v v2.v w v0.ok v1.ok v2.ok
  have ot : OWOk (.call 16 [.a [a0, a1, a2]] (.bool (gateB (squareW a0 a1 a2) 16777216 150994944))) := fun w => by
    rw [← inside_ref a0 a1 a2 _ _ (by omega) (by omega)]
    exact refAccel_calls a0.v a1.v a2.v w a0.ok a1.ok a2.ok
  rw [sensed_is _ _ _ _ _ _ _ _ _ _ _ _ _ _ _ hm ht, flags_is _ _ _ _ _ _ _ _ hm ht]
  clear hm ht
  generalize gateB (squareW v0 v1 v2) 1000000 400000000 = m at *
  generalize gateB (squareW a0 a1 a2) 16777216 150994944 = t at *
  cases m <;> cases t
  · exact pureW_calls (next_run00 q0 q1 q2 q3 u0 u1 u2 a0 a1 a2 v0 v1 v2) (owsC ot (owsC om ows0)) rfl w
  · exact pureW_calls (next_run01 q0 q1 q2 q3 u0 u1 u2 a0 a1 a2 v0 v1 v2) (owsC ot (owsC om ows0)) rfl w
  · exact pureW_calls (next_run10 q0 q1 q2 q3 u0 u1 u2 a0 a1 a2 v0 v1 v2) (owsC ot (owsC om ows0)) rfl w
  · exact pureW_calls (next_run11 q0 q1 q2 q3 u0 u1 u2 a0 a1 a2 v0 v1 v2) (owsC ot (owsC om ows0)) rfl w
end Go.Proofs.YtbmfcedndbgpoaaGreat.Xi

/- StepTells, as a run. -/
namespace Go.Proofs.YtbmfcedndbgpoaaGreat.Xi
open Go Go.RowKit
set_option linter.unusedVariables false
noncomputable def nextV (q0 q1 q2 q3 u0 u1 u2 a0 a1 a2 v0 v1 v2 : Wd) : Value := .tuple #[qv (sensedW q0 q1 q2 q3 u0 u1 u2 a0 a1 a2 v0 v1 v2), .int .i64 (flagsI (sensedA a0 a1 a2) (sensedM v0 v1 v2))]
theorem flags_64 (g m : Wd) : -9223372036854775808 ≤ flagsI g m ∧ flagsI g m ≤ 9223372036854775807 := by
  unfold flagsI flagI
  split <;> split <;> omega
theorem good1_qv (x : Q4) : good1 (qv x) := .inr ⟨_, rfl, fun u hu => by
  simp at hu
  rcases hu with rfl | rfl | rfl | rfl <;> exact good_w _⟩
theorem goodC_next (q0 q1 q2 q3 u0 u1 u2 a0 a1 a2 v0 v1 v2 : Wd) : goodC (nextV q0 q1 q2 q3 u0 u1 u2 a0 a1 a2 v0 v1 v2) := .inr ⟨_, rfl, fun u hu => by
  simp at hu
  rcases hu with rfl | rfl
  · exact good1_qv _
  · exact .inl (good_64 (flags_64 _ _))⟩
noncomputable def RNx : List PA → Option Value
  | [.a [q0, q1, q2, q3], .a [u0, u1, u2, a0, a1, a2, v0, v1, v2]] => some (nextV q0 q1 q2 q3 u0 u1 u2 a0 a1 a2 v0 v1 v2)
  | _ => none
noncomputable def entNx (f : FuncId) (h : ∀ (q0 q1 q2 q3 u0 u1 u2 a0 a1 a2 v0 v1 v2 : Wd) (w : World), Calls Tryz.prog f #[q4 q0 q1 q2 q3, .agg #[.int .i32 u0.v, .int .i32 u1.v, .int .i32 u2.v, .int .i32 a0.v, .int .i32 a1.v, .int .i32 a2.v, .int .i32 v0.v, .int .i32 v1.v, .int .i32 v2.v]] w fun e w' => e = .returned (nextV q0 q1 q2 q3 u0 u1 u2 a0 a1 a2 v0 v1 v2) ∧ Chg w w' []) : Ent :=
  entP f RNx fun ps v hv => by
    unfold RNx at hv
    split at hv
    · injection hv with hv
      subst hv
      exact ⟨goodC_next _ _ _ _ _ _ _ _ _ _ _ _ _, h _ _ _ _ _ _ _ _ _ _ _ _ _⟩
    · cases hv
noncomputable def gNextE : Ent := entNx 36 next_calls
noncomputable def rNextE : Ent := entNx 37 refNext
theorem oQ_same (x : Q4) : ObOk Tryz.prog (.test (.bin .eql 28) [qv x, qv x] (.bool true)) :=
  oArr_ok (by kernel_rfl) fun w => by rw [eqQ]; simp
def stS : List (FuncId × Sh) := [(36, .two (.agg 4) .one), (37, .two (.agg 4) .one)]
noncomputable def stT : List Ent := [gNextE, rNextE]
def in13 (q0 q1 q2 q3 u0 u1 u2 a0 a1 a2 v0 v1 v2 : Wd) : List Value := [.int .i32 q0.v, .int .i32 q1.v, .int .i32 q2.v, .int .i32 q3.v, .int .i32 u0.v, .int .i32 u1.v, .int .i32 u2.v, .int .i32 a0.v, .int .i32 a1.v, .int .i32 a2.v, .int .i32 v0.v, .int .i32 v1.v, .int .i32 v2.v]
noncomputable def nxQ (q0 q1 q2 q3 u0 u1 u2 a0 a1 a2 v0 v1 v2 : Wd) : Q4 := sensedW (kW q0.v) (kW q1.v) (kW q2.v) (kW q3.v) (kW u0.v) (kW u1.v) (kW u2.v) (kW a0.v) (kW a1.v) (kW a2.v) (kW v0.v) (kW v1.v) (kW v2.v)
def nxI (a0 a1 a2 v0 v1 v2 : Wd) : Int := flagsI (sensedA (kW a0.v) (kW a1.v) (kW a2.v)) (sensedM (kW v0.v) (kW v1.v) (kW v2.v))
set_option maxRecDepth 100000 in
theorem stepTells_run (q0 q1 q2 q3 u0 u1 u2 a0 a1 a2 v0 v1 v2 : Wd) : runP (cxR [(38, .lit (.bool true))] stS [(23, true), (24, true)]) (tabOf stT) 200 8 nxA (in13 q0 q1 q2 q3 u0 u1 u2 a0 a1 a2 v0 v1 v2) =
    some (.bool true, [.call 38 [] (.bool true), oEql 3 .i64 (nxI a0 a1 a2 v0 v1 v2) (nxI a0 a1 a2 v0 v1 v2) true,
      .test (.bin .eql 28) [qv (nxQ q0 q1 q2 q3 u0 u1 u2 a0 a1 a2 v0 v1 v2), qv (nxQ q0 q1 q2 q3 u0 u1 u2 a0 a1 a2 v0 v1 v2)] (.bool true)]) := by kernel_rfl
theorem stepTells_calls (q0 q1 q2 q3 u0 u1 u2 a0 a1 a2 v0 v1 v2 : Wd) (w : World) : Calls Tryz.prog 8 #[.agg #[.int .i32 q0.v, .int .i32 q1.v, .int .i32 q2.v, .int .i32 q3.v], .agg #[.int .i32 u0.v, .int .i32 u1.v, .int .i32 u2.v, .int .i32 a0.v, .int .i32 a1.v, .int .i32 a2.v, .int .i32 v0.v, .int .i32 v1.v, .int .i32 v2.v]] w fun e w' => e = .returned (.bool true) ∧ Chg w w' [] :=
  cxR_calls _ (stepTells_run q0 q1 q2 q3 u0 u1 u2 a0 a1 a2 v0 v1 v2) (goodL_l [q0, q1, q2, q3, u0, u1, u2, a0, a1, a2, v0, v1, v2]) (obsC (fun w => awake34_calls w) (obsC (oEql_ok (by simp)) (obs1 (oQ_same _)))) w
end Go.Proofs.YtbmfcedndbgpoaaGreat.Xi

/- How arguments are opened to cells, where the kit's own words for it do not reach: slices of structs. -/
namespace Go.Proofs.YtbmfcedndbgpoaaGreat
open Go.ChangeShapes Go.WideShapes Go.ChangeAt Go.RowKit

section
variable {H : Type} {enc : TypeId × Value → H} {P : Program} {w : World} {base : Nat} {spare : Nat → Bool} {held : Bool}
/-- A slice that came in: its elements, of so many cells each, each with its own reading. -/
theorem open_elems {t e : TypeId} {fuel C : Nat} {a0 : Option Addr} {n c : Nat} {x : DataW H × List MemPlace} (ht : P.underlying t = some (.slice e)) (hC : P.cellsOf e = C) (h0 : 0 < C)
    (h : DataW.trod enc P w base spare held fuel t [.slice a0 n c] = some x) :
    n ≤ c ∧ c ≤ maxLen ∧ (0 < n → ∃ b off, a0 = some ⟨b, off, none⟩ ∧ ∀ i, i < n → ∃ cs m y, cs.length = C ∧
      (∀ j, j < C → w.cell? ⟨b, off + (i * C + j), none⟩ = cs[j]?) ∧ DataW.trod enc P w base spare held m e cs = some y) := by
  subst hC
  rcases Go.Deep.open_slice ht h with ⟨hcs, _⟩ | ⟨a, len, cap, m, k, D, Pl, hcs, hb, hl, hm, hmm, _, hi⟩
  · simp at hcs
    obtain ⟨rfl, rfl, rfl⟩ := hcs
    exact ⟨Nat.le_refl _, by simp [maxLen], fun h => absurd h (by omega)⟩
  · simp at hcs
    obtain ⟨rfl, rfl, rfl⟩ := hcs
    refine ⟨hl, hm, fun hn => ?_⟩
    have hat : ∀ i, i < n → ∃ cs m y, cs.length = P.cellsOf e ∧ (∀ j, j < P.cellsOf e → w.cell? (a.add (i * P.cellsOf e + j)) = cs[j]?) ∧ DataW.trod enc P w base spare held m e cs = some y := by
      intro i hin
      obtain ⟨cs, hc, ht'⟩ := hi i (by rw [hmm]; split <;> omega)
      obtain ⟨_, hcl, hat⟩ := World.cells?_some hc
      refine ⟨cs, k, _, hcl, fun j hj => ?_, ht'⟩
      rw [← hat j hj, ← Go.Deep.add_add]
    have ha : a = ⟨a.block, a.off, none⟩ := by
      obtain ⟨cs, _, _, hl, hc, _⟩ := hat 0 hn
      have h1 := hc 0 h0
      rw [List.getElem?_eq_getElem (by omega), show a.add (0 * P.cellsOf e + 0) = a by simp [Addr.add]] at h1
      exact plain_of_cell h1
    refine ⟨a.block, a.off, by rw [← ha], fun i hin => ?_⟩
    obtain ⟨cs, m, y, hl, hc, ht'⟩ := hat i hin
    refine ⟨cs, m, y, hl, fun j hj => ?_, ht'⟩
    rw [← hc j hj, ha, add_plain]

theorem okWide_array {r : Reach} {b0 : Nat} {t : TypeId} {v : Value} {n : Nat} {e : TypeId} (ht : P.underlying t = some (.array n e)) (h : Value.okWide P w r b0 t v) : ∃ cs, v = .agg cs ∧ cs.size = P.cellsOf t := by
  simp only [Value.okWide, ht] at h
  obtain ⟨cs, h1, h2, _⟩ := h
  exact ⟨cs, h1, h2⟩
theorem array_of {cs : Array Value} {vs : List Value} (hl : cs.size = vs.length) (h : ∀ j (hj : j < vs.length), cs.toList[j]? = some vs[j]) : cs = vs.toArray := by
  apply Array.ext
  · simpa using hl
  · intro i h1 h2
    have h3 := h i (by simpa using h2)
    rw [Array.getElem?_toList, Array.getElem?_eq_getElem h1] at h3
    injection h3 with h3

/-- The types of a type's cells, its structs and arrays laid open. -/
def leaves (P : Program) : Nat → TypeId → List TypeId
  | 0, t => [t]
  | d + 1, t => match P.underlying t with
    | some (.struct fs) => (fs.toList.map fun f => leaves P d f.type).flatten
    | some (.array n e) => (List.replicate n (leaves P d e)).flatten
    | _ => [t]
def fieldsOk (P : Program) (ok : TypeId → Bool) (lv : TypeId → List TypeId) : List Field → Nat → Bool
  | [], _ => true
  | f :: fs, off => f.offset == off && P.cellsOf f.type == (lv f.type).length && ok f.type && fieldsOk P ok lv fs (off + (lv f.type).length)
def leavesOk (P : Program) : Nat → TypeId → Bool
  | 0, t => P.cellsOf t == 1
  | d + 1, t => match P.underlying t with
    | some (.struct fs) => P.cellsOf t == (leaves P (d + 1) t).length && fieldsOk P (leavesOk P d) (leaves P d) fs.toList 0
    | some (.array n e) => P.cellsOf e == (leaves P d e).length && P.cellsOf t == n * P.cellsOf e && leavesOk P d e
    | _ => true

/-- Cell j of cs reads as its leaf's type. -/
def LeafAt (enc : TypeId × Value → H) (P : Program) (w : World) (base : Nat) (spare : Nat → Bool) (held : Bool) (cs : List Value) (j : Nat) (t : TypeId) : Prop :=
  ∃ m y v, cs[j]? = some v ∧ DataW.trod enc P w base spare held m t [v] = some y

theorem seg_at {cs : List Value} {off C j : Nat} {v : Value} (h : ((cs.drop off).take C)[j]? = some v) : cs[off + j]? = some v := by
  rw [List.getElem?_take] at h
  split at h
  · rw [List.getElem?_drop] at h; exact h
  · cases h

theorem fields_leaves {d : Nat} (ih : ∀ t, leavesOk P d t = true → ∀ fuel cs x, cs.length = (leaves P d t).length → DataW.trod enc P w base spare held fuel t cs = some x → ∀ j lt, (leaves P d t)[j]? = some lt → LeafAt enc P w base spare held cs j lt)
    (cs : List Value) : ∀ (fs : List Field) (off : Nat), fieldsOk P (leavesOk P d) (leaves P d) fs off = true → off + ((fs.map fun f => leaves P d f.type).flatten).length ≤ cs.length →
      (∀ f ∈ fs, ∃ m y, DataW.trod enc P w base spare held m f.type ((cs.drop f.offset).take (P.cellsOf f.type)) = some y) →
      ∀ j lt, ((fs.map fun f => leaves P d f.type).flatten)[j]? = some lt → LeafAt enc P w base spare held cs (off + j) lt := by
  intro fs
  induction fs with
  | nil => intro off _ _ _ j lt h; simp at h
  | cons f fs ihf =>
    intro off hok hlen hall j lt hj
    simp only [fieldsOk, Bool.and_eq_true, beq_iff_eq] at hok
    obtain ⟨⟨⟨ho, hc⟩, hl⟩, hrest⟩ := hok
    simp only [List.map_cons, List.flatten_cons, List.length_append] at hlen
    simp only [List.map_cons, List.flatten_cons] at hj
    by_cases hjl : j < (leaves P d f.type).length
    · rw [List.getElem?_append_left hjl] at hj
      obtain ⟨m, y, ht⟩ := hall f (by simp)
      rw [ho, hc] at ht
      obtain ⟨m', y', v, hv, ht'⟩ := ih f.type hl m _ y (by simp; omega) ht j lt hj
      exact ⟨m', y', v, seg_at hv, ht'⟩
    · rw [List.getElem?_append_right (by omega)] at hj
      have := ihf (off + (leaves P d f.type).length) hrest (by omega) (fun g hg => hall g (by simp [hg])) _ lt hj
      rwa [show off + (leaves P d f.type).length + (j - (leaves P d f.type).length) = off + j by omega] at this

theorem array_leaves {d : Nat} {e : TypeId} (ih : ∀ fuel cs x, cs.length = (leaves P d e).length → DataW.trod enc P w base spare held fuel e cs = some x → ∀ j lt, (leaves P d e)[j]? = some lt → LeafAt enc P w base spare held cs j lt)
    (hC : P.cellsOf e = (leaves P d e).length) (cs : List Value) : ∀ (n off : Nat), off + n * P.cellsOf e ≤ cs.length →
      (∀ i, i < n → ∃ m y, DataW.trod enc P w base spare held m e ((cs.drop (off + i * P.cellsOf e)).take (P.cellsOf e)) = some y) →
      ∀ j lt, ((List.replicate n (leaves P d e)).flatten)[j]? = some lt → LeafAt enc P w base spare held cs (off + j) lt := by
  intro n
  induction n with
  | zero => intro off _ _ j lt h; simp at h
  | succ n ihn =>
    intro off hlen hall j lt hj
    rw [List.replicate_succ, List.flatten_cons] at hj
    rw [Nat.succ_mul] at hlen
    by_cases hjl : j < (leaves P d e).length
    · rw [List.getElem?_append_left hjl] at hj
      obtain ⟨m, y, ht⟩ := hall 0 (by omega)
      rw [Nat.zero_mul, Nat.add_zero] at ht
      obtain ⟨m', y', v, hv, ht'⟩ := ih m _ y (by rw [← hC]; simp; omega) ht j lt hj
      exact ⟨m', y', v, seg_at hv, ht'⟩
    · rw [List.getElem?_append_right (by omega)] at hj
      have := ihn (off + P.cellsOf e) (by omega) (fun i hi => by
        obtain ⟨m, y, ht⟩ := hall (i + 1) (by omega)
        rw [Nat.succ_mul] at ht
        exact ⟨m, y, by rw [show off + P.cellsOf e + i * P.cellsOf e = off + (i * P.cellsOf e + P.cellsOf e) by omega]; exact ht⟩) _ lt hj
      rwa [show off + P.cellsOf e + (j - (leaves P d e).length) = off + j by omega] at this

theorem trod_leaves : ∀ (d : Nat) (t : TypeId), leavesOk P d t = true → ∀ fuel cs x, cs.length = (leaves P d t).length → DataW.trod enc P w base spare held fuel t cs = some x →
    ∀ j lt, (leaves P d t)[j]? = some lt → LeafAt enc P w base spare held cs j lt := by
  intro d
  induction d with
  | zero =>
    intro t _ fuel cs x hl h j lt hj
    match cs, hl with
    | [v], _ =>
      match j, hj with
      | 0, hj => injection hj with hj; subst hj; exact ⟨fuel, x, v, rfl, h⟩
  | succ d ih =>
    intro t hok fuel cs x hl h j lt hj
    unfold leavesOk at hok
    cases hu : P.underlying t with
    | none => unfold leaves at hl hj; rw [hu] at hl hj
              match cs, hl with
              | [v], _ =>
                match j, hj with
                | 0, hj => injection hj with hj; subst hj; exact ⟨fuel, x, v, rfl, h⟩
    | some u =>
      by_cases hs : ∃ fs, u = .struct fs
      · obtain ⟨fs, rfl⟩ := hs
        rw [hu] at hok
        simp only [Bool.and_eq_true, beq_iff_eq] at hok
        obtain ⟨xs, n, _, _, hlen, hxl, hf⟩ := DataW.trod_struct hu h
        have hlv : leaves P (d + 1) t = (fs.toList.map fun f => leaves P d f.type).flatten := by rw [leaves]; rw [hu]
        rw [hlv] at hj hl
        have := fields_leaves ih cs fs.toList 0 hok.2 (by omega) (fun f hf' => by
          obtain ⟨i, hi, rfl⟩ := List.getElem_of_mem hf'
          have hi' : i < fs.size := by simpa using hi
          have h1 := hf i _ (Array.getElem?_eq_getElem hi')
          rw [List.getElem?_eq_getElem (by omega)] at h1
          exact ⟨n, _, by simpa using h1⟩) j lt hj
        simpa using this
      · by_cases ha : ∃ n e, u = .array n e
        · obtain ⟨n, e, rfl⟩ := ha
          rw [hu] at hok
          simp only [Bool.and_eq_true, beq_iff_eq] at hok
          obtain ⟨xs, m, _, _, hlen, hxl, hf⟩ := DataW.trod_array hu h
          have hlv : leaves P (d + 1) t = (List.replicate n (leaves P d e)).flatten := by rw [leaves]; rw [hu]
          rw [hlv] at hj
          have := array_leaves (fun fuel cs x => ih e hok.2 fuel cs x) hok.1.1 cs n 0 (by rw [hlen, hok.1.2]; omega) (fun i hi => by
            have h1 := hf i hi
            rw [List.getElem?_eq_getElem (by omega)] at h1
            exact ⟨m, _, by rw [Nat.zero_add]; exact h1⟩) j lt hj
          simpa using this
        · have hlv : leaves P (d + 1) t = [t] := by
            rw [leaves]; rw [hu]
            cases u <;> first | rfl | (exfalso; exact hs ⟨_, rfl⟩) | (exfalso; exact ha ⟨_, _, rfl⟩)
          rw [hlv] at hj hl
          match cs, hl with
          | [v], _ =>
            match j, hj with
            | 0, hj => injection hj with hj; subst hj; exact ⟨fuel, x, v, rfl, h⟩

theorem leaf_int {cs : List Value} {j : Nat} {t : TypeId} {k : IntKind} (ht : P.underlying t = some (.int k)) (h : LeafAt enc P w base spare held cs j t) : ∃ n, cs[j]? = some (.int k n) ∧ (Lit.int k n).wf = true := by
  obtain ⟨m, y, v, hv, h⟩ := h
  obtain ⟨n, e, _, hw⟩ := DataW.trod_int ht h
  injection e with e _
  subst e
  exact ⟨n, hv, hw⟩
theorem leaf_bool {cs : List Value} {j : Nat} {t : TypeId} (ht : P.underlying t = some .bool) (h : LeafAt enc P w base spare held cs j t) : ∃ b, cs[j]? = some (.bool b) := by
  obtain ⟨m, y, v, hv, h⟩ := h
  obtain ⟨b, e, _⟩ := DataW.trod_bool ht h
  injection e with e _
  subst e
  exact ⟨b, hv⟩
theorem leaf_string {cs : List Value} {j : Nat} {t : TypeId} (ht : P.underlying t = some .string) (h : LeafAt enc P w base spare held cs j t) : ∃ s : ByteArray, cs[j]? = some (.string s) ∧ s.size ≤ maxLen := by
  obtain ⟨m, y, v, hv, h⟩ := h
  obtain ⟨s, e, _, hs⟩ := DataW.trod_string ht h
  injection e with e _
  subst e
  exact ⟨s, hv, hs⟩
end

end Go.Proofs.YtbmfcedndbgpoaaGreat
