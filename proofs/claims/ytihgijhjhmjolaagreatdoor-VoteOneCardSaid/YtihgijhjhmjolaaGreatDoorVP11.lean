/- Texts of this claim, side by side: RunN, RunO, RunK. -/
import Derived.Test.YtihgijhjhmjolaaGreatDoorVP9
import Derived.Test.YtihgijhjhmjolaaGreatDoorVP7
import Derived.Test.YtihgijhjhmjolaaGreatDoorVP10
/- Layer 34: the reference's step is the program's. StepTells, as a run. -/
namespace Go.Proofs.YtihgijhjhmjolaaGreatDoor.Xi
open Go Go.RowKit
set_option linter.unusedVariables false
def mq (x : Q4) : MO := .a [x.a, x.b, x.c, x.d]
def mt3 (x : T3) : MO := .a [x.a, x.b, x.c]
noncomputable def wNorm : EntW := ewA4 116 (fun a b c d => .w (normW a [b, c, d])) refQNorm
noncomputable def wRsqrt : EntW := ew1 108 (fun x => .t [.w (rootW x).1, .w (rootW x).2]) refRsqrt
noncomputable def wScale : EntW := ew3 110 (fun a z h => .w (scaledW a z h)) refScale
def quS : List (FuncId × Sh) := [(116, .one), (108, .two .one .one), (110, .one)]
set_option maxRecDepth 100000 in
theorem qunit_run (a b c d : Wd) : runPW (cxR [] quS []) [wNorm, wRsqrt, wScale] 200 63 [.agg (opqs 4 0)] [a, b, c, d] = some (mq (unitW a b c d), []) := by kernel_rfl
theorem refQUnit (a b c d : Wd) (w : World) : Calls Tryz.prog 63 #[q4 a b c d] w fun e w' => e = .returned (mq (unitW a b c d)).val ∧ Chg w w' [] := pureW_calls (qunit_run a b c d) ows0 rfl w
noncomputable def nxT : List EntW := [ew2 52 (fun a b => .w (shlW a b)) refShl, ew2 37 (fun a b => .w (sarW a b)) refSar, ew2 58 (fun a b => .w (addsW a b)) refAdd, ew2 62 (fun a b => .w (subsW a b)) refSub,
 ew3 61 (fun a b c => .w (clampW a b c)) refClamp, ewA43 53 (fun a b c d x y z => mq (rateW a b c d x y z)) refRate, ewA3 55 (fun a b c => mt3 (pointW a b c)) refGUnit,
 ewA43 54 (fun a b c d x y z => mq (pullW a b c d x y z)) refImu, ewA43 57 (fun a b c d x y z => mq (fieldW a b c d x y z)) refDMag, ewA4 59 (fun a b c d => mq (evenW a b c d)) refDUnit, ewA4 63 (fun a b c d => mq (unitW a b c d)) refQUnit]
def nxS : List (FuncId × Sh) := [(52, .one), (37, .one), (58, .one), (62, .one), (61, .one), (53, .agg 4), (55, .agg 3), (54, .agg 4), (57, .agg 4), (59, .agg 4), (63, .agg 4)]
def nxL (m t : Bool) : List (FuncId × AV) := [(56, .lit (.bool m)), (60, .lit (.bool t))]
def nxG (m : Bool) (P N : Q4) : Q4 := bif m then ⟨addsW P.a N.a, addsW P.b N.b, addsW P.c N.c, addsW P.d N.d⟩ else P
def nxB (t : Bool) (e : Wd) : Wd := bif t then sarW e (kW 8) else kW 0
noncomputable def nxV (t : Bool) (q r e : Wd) : Wd := addsW q (clampW (subsW r (nxB t e)) (kW (-134217728)) (kW 134217728))
def nxR (q0 q1 q2 q3 u0 u1 u2 : Wd) : Q4 := rateW q0 q1 q2 q3 (shlW u0 (kW 12)) (shlW u1 (kW 12)) (shlW u2 (kW 12))
def nxE (G : Q4) : Q4 := evenW G.a G.b G.c G.d
noncomputable def nxU (t : Bool) (q0 q1 q2 q3 : Wd) (R E : Q4) : Q4 := unitW (nxV t q0 R.a E.a) (nxV t q1 R.b E.b) (nxV t q2 R.c E.c) (nxV t q3 R.d E.d)
noncomputable def nxW (m t : Bool) (q0 q1 q2 q3 u0 u1 u2 a0 a1 a2 v0 v1 v2 : Wd) : Q4 := nxU t q0 q1 q2 q3 (nxR q0 q1 q2 q3 u0 u1 u2) (nxE (nxG m (sensedP q0 q1 q2 q3 a0 a1 a2) (sensedN q0 q1 q2 q3 v0 v1 v2)))
def nxF (m t : Bool) : Int := (bif m then 0 else 4) + (bif t then 0 else 2)
def nxO (m t : Bool) (a0 a1 a2 v0 v1 v2 : Wd) : List OW := [.call 60 [.a [a0, a1, a2]] (.bool t), .call 56 [.a [v0, v1, v2]] (.bool m)]
def nxA : List AV := [.agg (opqs 4 0), .agg (opqs 9 4)]
set_option maxRecDepth 100000 in
theorem next_run11 (q0 q1 q2 q3 u0 u1 u2 a0 a1 a2 v0 v1 v2 : Wd) : runPW (cxR (nxL true true) nxS []) nxT 300 32 nxA [q0, q1, q2, q3, u0, u1, u2, a0, a1, a2, v0, v1, v2] = some (.t [mq (nxW true true q0 q1 q2 q3 u0 u1 u2 a0 a1 a2 v0 v1 v2), .v (.int .i64 0)], nxO true true a0 a1 a2 v0 v1 v2) := by kernel_rfl
set_option maxRecDepth 100000 in
theorem next_run10 (q0 q1 q2 q3 u0 u1 u2 a0 a1 a2 v0 v1 v2 : Wd) : runPW (cxR (nxL true false) nxS []) nxT 300 32 nxA [q0, q1, q2, q3, u0, u1, u2, a0, a1, a2, v0, v1, v2] = some (.t [mq (nxW true false q0 q1 q2 q3 u0 u1 u2 a0 a1 a2 v0 v1 v2), .v (.int .i64 2)], nxO true false a0 a1 a2 v0 v1 v2) := by kernel_rfl
set_option maxRecDepth 100000 in
theorem next_run01 (q0 q1 q2 q3 u0 u1 u2 a0 a1 a2 v0 v1 v2 : Wd) : runPW (cxR (nxL false true) nxS []) nxT 300 32 nxA [q0, q1, q2, q3, u0, u1, u2, a0, a1, a2, v0, v1, v2] = some (.t [mq (nxW false true q0 q1 q2 q3 u0 u1 u2 a0 a1 a2 v0 v1 v2), .v (.int .i64 4)], nxO false true a0 a1 a2 v0 v1 v2) := by kernel_rfl
set_option maxRecDepth 100000 in
theorem next_run00 (q0 q1 q2 q3 u0 u1 u2 a0 a1 a2 v0 v1 v2 : Wd) : runPW (cxR (nxL false false) nxS []) nxT 300 32 nxA [q0, q1, q2, q3, u0, u1, u2, a0, a1, a2, v0, v1, v2] = some (.t [mq (nxW false false q0 q1 q2 q3 u0 u1 u2 a0 a1 a2 v0 v1 v2), .v (.int .i64 6)], nxO false false a0 a1 a2 v0 v1 v2) := by kernel_rfl
theorem andW_all (x m : Wd) (h : m.v = -1) : andW x m = x := Wd.ext_ (by show andI x.v m.v = x.v; rw [h]; exact and_all x.ok)
theorem andW_none (x m : Wd) (h : m.v = 0) : andW x m = kW 0 := Wd.ext_ (by show andI x.v m.v = (kW 0).v; rw [h, and_none]; decide +kernel)
theorem addsW_none (x : Wd) : addsW x (kW 0) = x := by
 apply Wd.ext_
 have := x.ok
 unfold In32 at this
 show satI (x.v + (kW 0).v) = x.v
 rw [kW_v (by decide)]
 unfold satI
 omega
theorem clamp_clip (x : Wd) : clampW x (kW (-134217728)) (kW 134217728) = clipW x := by
 apply Wd.ext_
 have e1 : (kW (-134217728)).v = -134217728 := kW_v (by decide)
 have e2 : (kW 134217728).v = 134217728 := kW_v (by decide)
 show _ = min (max x.v (kW (-134217728)).v) (kW 134217728).v
 unfold clampW
 rw [e1, e2]
 split <;> (try split) <;> (try split) <;> simp_all <;> omega
theorem down_is (P N : Q4) (g : Wd) (m : Bool) (h : g.v = bif m then -1 else 0) : downOf P N g = nxG m P N := by
 unfold downOf nxG
 cases m with
 | true => simp only [cond_true] at h ⊢; rw [andW_all _ _ h, andW_all _ _ h, andW_all _ _ h, andW_all _ _ h]
 | false => simp only [cond_false] at h ⊢; rw [andW_none _ _ h, andW_none _ _ h, andW_none _ _ h, andW_none _ _ h, addsW_none, addsW_none, addsW_none, addsW_none]
theorem part_is (q r e g : Wd) (t : Bool) (h : g.v = bif t then -1 else 0) : partW q r e g = nxV t q r e := by
 unfold partW nxV nxB
 rw [clamp_clip]
 cases t with
 | true => simp only [cond_true] at h ⊢; rw [andW_all _ _ h, down_eq _ (by decide : In32 8)]
 | false => simp only [cond_false] at h ⊢; rw [andW_none _ _ h]
theorem sensed_is (q0 q1 q2 q3 u0 u1 u2 a0 a1 a2 v0 v1 v2 : Wd) (m t : Bool) (hm : (sensedM v0 v1 v2).v = bif m then -1 else 0) (ht : (sensedA a0 a1 a2).v = bif t then -1 else 0) :
 sensedW q0 q1 q2 q3 u0 u1 u2 a0 a1 a2 v0 v1 v2 = nxW m t q0 q1 q2 q3 u0 u1 u2 a0 a1 a2 v0 v1 v2 := by
 unfold sensedW stepOf nxW nxU sensedE evenOf nxE rateOf nxR
 rw [down_is _ _ _ m hm]
 simp only [part_is _ _ _ _ t ht, up_eq _ (by decide : In32 12)]
theorem flags_is (a0 a1 a2 v0 v1 v2 : Wd) (m t : Bool) (hm : (sensedM v0 v1 v2).v = bif m then -1 else 0) (ht : (sensedA a0 a1 a2).v = bif t then -1 else 0) : flagsI (sensedA a0 a1 a2) (sensedM v0 v1 v2) = nxF m t := by
 unfold flagsI flagI nxF
 rw [hm, ht]
 cases m <;> cases t <;> rfl
theorem gate_01 (n : Wd) (lo hi : Int) : (withinW n (kW lo) (kW hi)).v = bif gateB n lo hi then -1 else 0 := by
 unfold gateB
 rcases within_01 n (kW lo) (kW hi) with h | h <;> rw [h] <;> rfl
theorem refNext (q0 q1 q2 q3 u0 u1 u2 a0 a1 a2 v0 v1 v2 : Wd) (w : World) : Calls Tryz.prog 32 #[q4 q0 q1 q2 q3, .agg #[.int .i32 u0.v, .int .i32 u1.v, .int .i32 u2.v, .int .i32 a0.v, .int .i32 a1.v, .int .i32 a2.v, .int .i32 v0.v, .int .i32 v1.v, .int .i32 v2.v]] w fun e w' =>
 e = .returned (.tuple #[qv (sensedW q0 q1 q2 q3 u0 u1 u2 a0 a1 a2 v0 v1 v2), .int .i64 (flagsI (sensedA a0 a1 a2) (sensedM v0 v1 v2))]) ∧ Chg w w' [] := by
 have hm := gate_01 (squareW v0 v1 v2) 1000000 400000000
 have ht := gate_01 (squareW a0 a1 a2) 16777216 150994944
 have om : OWOk (.call 56 [.a [v0, v1, v2]] (.bool (gateB (squareW v0 v1 v2) 1000000 400000000))) := fun w => by
  rw [← inside_ref v0 v1 v2 _ _ (by omega) (by omega)]
  exact refMag_calls v0.v v1.v v2.v w v0.ok v1.ok v2.ok
 have ot : OWOk (.call 60 [.a [a0, a1, a2]] (.bool (gateB (squareW a0 a1 a2) 16777216 150994944))) := fun w => by
  rw [← inside_ref a0 a1 a2 _ _ (by omega) (by omega)]
  exact refAccel_calls a0.v a1.v a2.v w a0.ok a1.ok a2.ok
 rw [sensed_is _ _ _ _ _ _ _ _ _ _ _ _ _ _ _ hm ht, flags_is _ _ _ _ _ _ _ _ hm ht]
 clear hm ht
 generalize gateB (squareW v0 v1 v2) 1000000 400000000 = m at *
 generalize gateB (squareW a0 a1 a2) 16777216 150994944 = t at *
 cases m <;> cases t
 · exact pureW_calls (next_run00 q0 q1 q2 q3 u0 u1 u2 a0 a1 a2 v0 v1 v2) (owsC ot (owsC om ows0)) rfl w
 · exact pureW_calls (next_run01 q0 q1 q2 q3 u0 u1 u2 a0 a1 a2 v0 v1 v2) (owsC ot (owsC om ows0)) rfl w
 · exact pureW_calls (next_run10 q0 q1 q2 q3 u0 u1 u2 a0 a1 a2 v0 v1 v2) (owsC ot (owsC om ows0)) rfl w
 · exact pureW_calls (next_run11 q0 q1 q2 q3 u0 u1 u2 a0 a1 a2 v0 v1 v2) (owsC ot (owsC om ows0)) rfl w
end Go.Proofs.YtihgijhjhmjolaaGreatDoor.Xi

/- Next, and the reference's, as calls that answer words. -/
namespace Go.Proofs.YtihgijhjhmjolaaGreatDoor.Xi
open Go Go.RowKit
set_option linter.unusedVariables false
noncomputable def nextV (q0 q1 q2 q3 u0 u1 u2 a0 a1 a2 v0 v1 v2 : Wd) : Value := .tuple #[qv (sensedW q0 q1 q2 q3 u0 u1 u2 a0 a1 a2 v0 v1 v2), .int .i64 (flagsI (sensedA a0 a1 a2) (sensedM v0 v1 v2))]
theorem flags_64 (g m : Wd) : -9223372036854775808 ≤ flagsI g m ∧ flagsI g m ≤ 9223372036854775807 := by
 unfold flagsI flagI
 split <;> split <;> omega
theorem good1_qv (x : Q4) : good1 (qv x) := .inr ⟨_, rfl, fun u hu => by
 simp at hu
 rcases hu with rfl | rfl | rfl | rfl <;> exact good_w _⟩
theorem goodC_next (q0 q1 q2 q3 u0 u1 u2 a0 a1 a2 v0 v1 v2 : Wd) : goodC (nextV q0 q1 q2 q3 u0 u1 u2 a0 a1 a2 v0 v1 v2) := .inr ⟨_, rfl, fun u hu => by
 simp at hu
 rcases hu with rfl | rfl
 · exact good1_qv _
 · exact .inl (good_64 (flags_64 _ _))⟩
noncomputable def RNx : List PA → Option Value
 | [.a [q0, q1, q2, q3], .a [u0, u1, u2, a0, a1, a2, v0, v1, v2]] => some (nextV q0 q1 q2 q3 u0 u1 u2 a0 a1 a2 v0 v1 v2)
 | _ => none
noncomputable def entNx (f : FuncId) (h : ∀ (q0 q1 q2 q3 u0 u1 u2 a0 a1 a2 v0 v1 v2 : Wd) (w : World), Calls Tryz.prog f #[q4 q0 q1 q2 q3, .agg #[.int .i32 u0.v, .int .i32 u1.v, .int .i32 u2.v, .int .i32 a0.v, .int .i32 a1.v, .int .i32 a2.v, .int .i32 v0.v, .int .i32 v1.v, .int .i32 v2.v]] w fun e w' => e = .returned (nextV q0 q1 q2 q3 u0 u1 u2 a0 a1 a2 v0 v1 v2) ∧ Chg w w' []) : Ent :=
 entP f RNx fun ps v hv => by
  unfold RNx at hv
  split at hv
  · injection hv with hv
    subst hv
    exact ⟨goodC_next _ _ _ _ _ _ _ _ _ _ _ _ _, h _ _ _ _ _ _ _ _ _ _ _ _ _⟩
  · cases hv
noncomputable def rNextE : Ent := entNx 32 refNext
end Go.Proofs.YtihgijhjhmjolaaGreatDoor.Xi

/- Layer 35: the reference's angles are the program's. EulerTells, as a run. -/
namespace Go.Proofs.YtihgijhjhmjolaaGreatDoor.Xi
open Go Go.RowKit
set_option linter.unusedVariables false
def RQ' (F : Wd → Wd → Wd → Wd → Value) : List PA → Option Value
 | [.a [a, b, c, d]] => some (F a b c d)
 | _ => none
def entQ' (f : FuncId) (F : Wd → Wd → Wd → Wd → Value) (hR : ∀ a b c d, goodC (F a b c d)) (h : ∀ (a b c d : Wd) (w : World), Calls Tryz.prog f #[q4 a b c d] w fun e w' => e = .returned (F a b c d) ∧ Chg w w' []) : Ent :=
 entP f (RQ' F) fun ps v hv => by
  unfold RQ' at hv
  split at hv
  · injection hv with hv
    subst hv
    exact ⟨hR _ _ _ _, h _ _ _ _⟩
  · cases hv
def eul (x : T3) (l : Bool) : Value := .agg #[.int .i32 x.a.v, .int .i32 x.b.v, .int .i32 x.c.v, .bool l]
def eulI (a b c : Int) (l : Bool) : Value := .agg #[.int .i32 a, .int .i32 b, .int .i32 c, .bool l]
theorem goodC_eul (x : T3) (l : Bool) : goodC (eul x l) := .inl (.inr ⟨_, rfl, fun u hu => by
 simp at hu
 rcases hu with rfl | rfl | rfl | rfl
 · exact good_w _
 · exact good_w _
 · exact good_w _
 · trivial⟩)
def eY (q0 q1 q2 q3 : Int) : Int := addK (mulK q0 q1) (mulK q2 q3)
def eX (q1 q2 : Int) : Int := subK (subK 536870912 (mulK q1 q1)) (mulK q2 q2)
def eS (q0 q1 q2 q3 : Int) : Int := subK (mulK q0 q2) (mulK q3 q1)
def eA (y x : Int) : Int := (angleW (kW y) (kW x)).v
def eR (x y : Int) : Int := (sqrtW (kW (addK (mulK x x) (mulK y y)))).v
def eS' : List (FuncId × Sh) := [(129, .one), (58, .one), (62, .one), (73, .one), (72, .one), (71, .one)]
noncomputable def eT : List Ent := [mulqE, addE, subE, absE, sqrtE, angleE]
def eAll (a b c d : Int) (l : Bool) : Value := eulI (eA (eY a b c d) (eX b c)) (eA (eS a b c d) (eR (eX b c) (eY a b c d))) (eA (eY a d b c) (eX c d)) l
def inq (a b c d : Wd) : List Value := [.int .i32 a.v, .int .i32 b.v, .int .i32 c.v, .int .i32 d.v]
set_option maxRecDepth 100000 in
theorem of_run1 (a b c d : Wd) : runP (cxR [] eS' [(29, true)]) (tabOf eT) 300 35 [.agg (opqs 4 0)] (inq a b c d) = some (eAll a.v b.v c.v d.v true, [oGeq 21 .i32 (absK (eS a.v b.v c.v d.v)) 536000000 true]) := by kernel_rfl
set_option maxRecDepth 100000 in
theorem of_run0 (a b c d : Wd) : runP (cxR [] eS' [(29, false)]) (tabOf eT) 300 35 [.agg (opqs 4 0)] (inq a b c d) = some (eAll a.v b.v c.v d.v false, [oGeq 21 .i32 (absK (eS a.v b.v c.v d.v)) 536000000 false]) := by kernel_rfl
theorem eAll_eq (a b c d : Wd) (l : Bool) : eAll a.v b.v c.v d.v l = eul (anglesW a b c d) l := by
 have y : eY a.v b.v c.v d.v = (anglesY a b c d).v := by unfold eY addK mulK; simp only [kW_self]; rfl
 have x : eX b.v c.v = (anglesX a b c d).v := by unfold eX subK mulK; simp only [kW_self]; rfl
 have s : eS a.v b.v c.v d.v = (anglesS a b c d).v := by unfold eS subK mulK; simp only [kW_self]; rfl
 have u : eY a.v d.v b.v c.v = (anglesU a b c d).v := by unfold eY addK mulK; simp only [kW_self]; rfl
 have v : eX c.v d.v = (anglesV a b c d).v := by unfold eX subK mulK; simp only [kW_self]; rfl
 have r : eR (anglesX a b c d).v (anglesY a b c d).v = (anglesR a b c d).v := by unfold eR addK mulK; simp only [kW_self]; rfl
 unfold eAll
 rw [y, x, s, u, v, r]
 unfold eA
 simp only [kW_self]
 rfl
theorem lock_is (a b c d : Wd) : lockB a b c d = decide (536000000 ≤ (absW (anglesS a b c d)).v) := by
 unfold lockB
 show (subI (ltI (absW (anglesS a b c d)).v (kW 536000000).v) (kW 1).v != 0) = _
 rw [kW_v (by decide : In32 536000000), kW_v (by decide : In32 1)]
 unfold ltI
 by_cases h : (absW (anglesS a b c d)).v < 536000000
 · rw [if_pos h, show subI 1 1 = 0 by decide +kernel]
   simp
   omega
 · rw [if_neg h, show subI 0 1 = -1 by decide +kernel]
   simp
   omega
theorem refOf (a b c d : Wd) (w : World) : Calls Tryz.prog 35 #[q4 a b c d] w fun e w' => e = .returned (eul (anglesW a b c d) (lockB a b c d)) ∧ Chg w w' [] := by
 have s : absK (eS a.v b.v c.v d.v) = (absW (anglesS a b c d)).v := by unfold absK eS subK mulK; simp only [kW_self]; rfl
 rw [lock_is]
 by_cases h : 536000000 ≤ (absW (anglesS a b c d)).v
 · rw [decide_eq_true h]
   have := cxR_calls _ (of_run1 a b c d) (goodL_l [a, b, c, d]) (obs1 (oGeq_ok (by rw [s]; simpa using h))) w
   rw [eAll_eq] at this
   exact this
 · rw [decide_eq_false h]
   have := cxR_calls _ (of_run0 a b c d) (goodL_l [a, b, c, d]) (obs1 (oGeq_ok (by rw [s]; simpa using h))) w
   rw [eAll_eq] at this
   exact this
noncomputable def rOfE : Ent := entQ' 35 (fun a b c d => eul (anglesW a b c d) (lockB a b c d)) (fun _ _ _ _ => goodC_eul _ _) refOf
noncomputable def gOfE : Ent := entQ' 33 (fun a b c d => eul (anglesW a b c d) (lockB a b c d)) (fun _ _ _ _ => goodC_eul _ _) eof_calls
end Go.Proofs.YtihgijhjhmjolaaGreatDoor.Xi
