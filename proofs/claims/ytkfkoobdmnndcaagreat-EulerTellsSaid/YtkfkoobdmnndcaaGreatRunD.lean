/- The reference's sums, products, signs: Sat, Add, Sub, Neg, Abs, Clamp, Round, Mulq, Sign, Min, Max. -/
import Derived.Test.YtkfkoobdmnndcaaGreatRunC
namespace Go.Proofs.YtkfkoobdmnndcaaGreat.Xi
open Go Go.RowKit
set_option linter.unusedVariables false
theorem t_eql (T : TypeId) (k : IntKind) (a b : Int) : PrOk Tryz.prog (.bin .eql T) [.int k a, .int k b] (.bool (a == b)) := fun x y w => by simp [eqGuard, binOp, Op.intCmp]
theorem t_lss (T : TypeId) (k : IntKind) (a b : Int) : PrOk Tryz.prog (.bin .lss T) [.int k a, .int k b] (.bool (decide (a < b))) := fun x y w => by simp [eqGuard, binOp, Op.intCmp]
theorem t_gtr (T : TypeId) (k : IntKind) (a b : Int) : PrOk Tryz.prog (.bin .gtr T) [.int k a, .int k b] (.bool (decide (b < a))) := fun x y w => by simp [eqGuard, binOp, Op.intCmp]
theorem t_geq (T : TypeId) (k : IntKind) (a b : Int) : PrOk Tryz.prog (.bin .geq T) [.int k a, .int k b] (.bool (decide (b ≤ a))) := fun x y w => by simp [eqGuard, binOp, Op.intCmp]
def oEql (T : TypeId) (k : IntKind) (a b : Int) (r : Bool) : Ob := .test (.bin .eql T) [.int k a, .int k b] (.bool r)
def oLss (T : TypeId) (k : IntKind) (a b : Int) (r : Bool) : Ob := .test (.bin .lss T) [.int k a, .int k b] (.bool r)
def oGtr (T : TypeId) (k : IntKind) (a b : Int) (r : Bool) : Ob := .test (.bin .gtr T) [.int k a, .int k b] (.bool r)
def oGeq (T : TypeId) (k : IntKind) (a b : Int) (r : Bool) : Ob := .test (.bin .geq T) [.int k a, .int k b] (.bool r)
theorem oEql_ok {T : TypeId} {k : IntKind} {a b : Int} {r : Bool} (h : (a == b) = r) : ObOk Tryz.prog (oEql T k a b r) := by subst h; exact t_eql T k a b
theorem oLss_ok {T : TypeId} {k : IntKind} {a b : Int} {r : Bool} (h : decide (a < b) = r) : ObOk Tryz.prog (oLss T k a b r) := by subst h; exact t_lss T k a b
theorem oGtr_ok {T : TypeId} {k : IntKind} {a b : Int} {r : Bool} (h : decide (b < a) = r) : ObOk Tryz.prog (oGtr T k a b r) := by subst h; exact t_gtr T k a b
theorem oGeq_ok {T : TypeId} {k : IntKind} {a b : Int} {r : Bool} (h : decide (b ≤ a) = r) : ObOk Tryz.prog (oGeq T k a b r) := by subst h; exact t_geq T k a b
theorem obs0 : ∀ ob ∈ ([] : List Ob), ObOk Tryz.prog ob := fun ob h => by cases h
theorem obs1 {a : Ob} (ha : ObOk Tryz.prog a) : ∀ ob ∈ [a], ObOk Tryz.prog ob := fun ob h => by simp at h; subst h; exact ha
theorem obsC {a : Ob} {l : List Ob} (ha : ObOk Tryz.prog a) (hl : ∀ ob ∈ l, ObOk Tryz.prog ob) : ∀ ob ∈ a :: l, ObOk Tryz.prog ob := fun ob h => by
  rcases List.mem_cons.1 h with rfl | h
  · exact ha
  · exact hl ob h
theorem ins1 (a : Wd) : goodL [.int .i32 a.v] := fun v hv => by simp at hv; subst hv; exact good_w a
theorem ins3 (a b c : Wd) : goodL [.int .i32 a.v, .int .i32 b.v, .int .i32 c.v] := fun v hv => by
  simp at hv
  rcases hv with rfl | rfl | rfl
  · exact good_w a
  · exact good_w b
  · exact good_w c
theorem insI {x : Int} (h : -9223372036854775808 ≤ x ∧ x ≤ 9223372036854775807) : goodL [.int .i64 x] := fun v hv => by simp at hv; subst hv; exact good_64 h
/-! ### Sat, and sums -/
def satW (x : Int) : Wd := ⟨satI x, in_sat x⟩
set_option maxRecDepth 100000 in
theorem sat_run0 (x : Int) : runP (cxR [] [] [(1, true)]) (tabOf []) 100 79 [.opq 0] [.int .i64 x] = some (.int .i32 (-2147483648), [oLss 2 .i64 x (-2147483648) true]) := by kernel_rfl
set_option maxRecDepth 100000 in
theorem sat_run1 (x : Int) : runP (cxR [] [] [(1, false), (2, true)]) (tabOf []) 100 79 [.opq 0] [.int .i64 x] = some (.int .i32 2147483647, [oGtr 2 .i64 x 2147483647 true, oLss 2 .i64 x (-2147483648) false]) := by kernel_rfl
set_option maxRecDepth 100000 in
theorem sat_run2 (x : Int) : runP (cxR [] [] [(1, false), (2, false)]) (tabOf []) 100 79 [.opq 0] [.int .i64 x] = some (.int .i32 (IntKind.i32.wrap x), [oGtr 2 .i64 x 2147483647 false, oLss 2 .i64 x (-2147483648) false]) := by kernel_rfl
theorem refSat (x : Int) (hx : -9223372036854775808 ≤ x ∧ x ≤ 9223372036854775807) (w : World) : Calls Tryz.prog 79 #[.int .i64 x] w fun e w' => e = .returned (.int .i32 (satW x).v) ∧ Chg w w' [] := by
  have hv : (satW x).v = min (max x (-2147483648)) 2147483647 := rfl
  rw [hv]
  by_cases h0 : x < -2147483648
  · rw [show min (max x (-2147483648)) 2147483647 = -2147483648 by omega]
    exact cxR_calls _ (sat_run0 x) (insI hx) (obs1 (oLss_ok (by simpa using h0))) w
  · by_cases h1 : 2147483647 < x
    · rw [show min (max x (-2147483648)) 2147483647 = 2147483647 by omega]
      exact cxR_calls _ (sat_run1 x) (insI hx) (obsC (oGtr_ok (by simpa using h1)) (obs1 (oLss_ok (by simpa using h0)))) w
    · rw [show min (max x (-2147483648)) 2147483647 = IntKind.i32.wrap x by rw [IntKind.wrap_i32]; omega]
      exact cxR_calls _ (sat_run2 x) (insI hx) (obsC (oGtr_ok (by simpa using h1)) (obs1 (oLss_ok (by simpa using h0)))) w
noncomputable def satE : Ent := entG1 79 (fun x => .int .i32 (satW x).v) (fun x hx => ⟨goodC_w _, refSat x hx⟩)
def satS : List (FuncId × Sh) := [(79, .one)]
set_option maxRecDepth 100000 in
theorem add_run (a b : Wd) : runP (cxR [] satS []) (tabOf [satE]) 100 36 [.opq 0, .opq 1] [.int .i32 a.v, .int .i32 b.v] = some (.int .i32 (satW (IntKind.i64.wrap (IntKind.i64.wrap a.v + IntKind.i64.wrap b.v))).v, []) := by kernel_rfl
set_option maxRecDepth 100000 in
theorem sub_run (a b : Wd) : runP (cxR [] satS []) (tabOf [satE]) 100 38 [.opq 0, .opq 1] [.int .i32 a.v, .int .i32 b.v] = some (.int .i32 (satW (IntKind.i64.wrap (IntKind.i64.wrap a.v - IntKind.i64.wrap b.v))).v, []) := by kernel_rfl
set_option maxRecDepth 100000 in
theorem neg_run (a : Wd) : runP (cxR [] satS []) (tabOf [satE]) 100 52 [.opq 0] [.int .i32 a.v] = some (.int .i32 (satW (IntKind.i64.wrap (0 - IntKind.i64.wrap a.v))).v, []) := by kernel_rfl
theorem w64 (a : Wd) : IntKind.i64.wrap a.v = a.v := by have := a.ok; unfold In32 at this; rw [IntKind.wrap_i64]; omega
theorem refAdd (a b : Wd) (w : World) : Calls Tryz.prog 36 #[.int .i32 a.v, .int .i32 b.v] w fun e w' => e = .returned (.int .i32 (addsW a b).v) ∧ Chg w w' [] := by
  have h := cxR_calls _ (add_run a b) (good_2 a b) obs0 w
  have ha := a.ok
  have hb := b.ok
  unfold In32 at ha hb
  rw [w64, w64, show IntKind.i64.wrap (a.v + b.v) = a.v + b.v by rw [IntKind.wrap_i64]; omega] at h
  exact h
theorem refSub (a b : Wd) (w : World) : Calls Tryz.prog 38 #[.int .i32 a.v, .int .i32 b.v] w fun e w' => e = .returned (.int .i32 (subsW a b).v) ∧ Chg w w' [] := by
  have h := cxR_calls _ (sub_run a b) (good_2 a b) obs0 w
  have ha := a.ok
  have hb := b.ok
  unfold In32 at ha hb
  rw [w64, w64, show IntKind.i64.wrap (a.v - b.v) = a.v - b.v by rw [IntKind.wrap_i64]; omega] at h
  exact h
theorem refNeg (a : Wd) (w : World) : Calls Tryz.prog 52 #[.int .i32 a.v] w fun e w' => e = .returned (.int .i32 (negW a).v) ∧ Chg w w' [] := by
  have h := cxR_calls _ (neg_run a) (ins1 a) obs0 w
  have ha := a.ok
  unfold In32 at ha
  rw [w64, show IntKind.i64.wrap (0 - a.v) = -a.v by rw [IntKind.wrap_i64]; omega] at h
  exact h
noncomputable def addE : Ent := ent2 36 (fun a b => .int .i32 (addsW a b).v) (fun _ _ => goodC_w _) refAdd
noncomputable def subE : Ent := ent2 38 (fun a b => .int .i32 (subsW a b).v) (fun _ _ => goodC_w _) refSub
noncomputable def negE : Ent := ent1 52 (fun a => .int .i32 (negW a).v) (fun _ => goodC_w _) refNeg
set_option maxRecDepth 100000 in
theorem abs_run0 (a : Wd) : runP (cxR [] [(52, .one)] [(1, true)]) (tabOf [negE]) 100 41 [.opq 0] [.int .i32 a.v] = some (.int .i32 (negW (kW a.v)).v, [oLss 21 .i32 a.v 0 true]) := by kernel_rfl
set_option maxRecDepth 100000 in
theorem abs_run1 (a : Wd) : runP (cxR [] [(52, .one)] [(1, false)]) (tabOf [negE]) 100 41 [.opq 0] [.int .i32 a.v] = some (.int .i32 a.v, [oLss 21 .i32 a.v 0 false]) := by kernel_rfl
theorem refAbs (a : Wd) (w : World) : Calls Tryz.prog 41 #[.int .i32 a.v] w fun e w' => e = .returned (.int .i32 (absW a).v) ∧ Chg w w' [] := by
  have ha := a.ok
  unfold In32 at ha
  have hv : (absW a).v = max a.v (min (max (-a.v) (-2147483648)) 2147483647) := rfl
  by_cases h0 : a.v < 0
  · have h := cxR_calls _ (abs_run0 a) (ins1 a) (obs1 (oLss_ok (by simpa using h0))) w
    rw [kW_self] at h
    have e : (negW a).v = (absW a).v := by rw [hv]; show min (max (-a.v) (-2147483648)) 2147483647 = _; omega
    rw [e] at h
    exact h
  · have h := cxR_calls _ (abs_run1 a) (ins1 a) (obs1 (oLss_ok (by simpa using h0))) w
    have e : a.v = (absW a).v := by rw [hv]; omega
    rw [← e]
    exact h
noncomputable def absE : Ent := ent1 41 (fun a => .int .i32 (absW a).v) (fun _ => goodC_w _) refAbs
/-! ### Products -/
/-- Round by 30 places, as it is reckoned. -/
def rndI (x : Int) : Int := bif decide (536870912 ≤ x % 1073741824) then IntKind.i64.wrap (IntKind.i64.wrap ((IntKind.i64.wrap (x - x % 1073741824)).tdiv 1073741824) + 1) else IntKind.i64.wrap ((IntKind.i64.wrap (x - x % 1073741824)).tdiv 1073741824)
set_option maxRecDepth 100000 in
theorem round_run0 (x : Int) : runP (cxR [] [(57, .one)] [(4, true)]) (tabOf [modE]) 200 105 [.opq 0, .lit (.int .i64 30)] [.int .i64 x] = some (.int .i64 (IntKind.i64.wrap (IntKind.i64.wrap ((IntKind.i64.wrap (x - x % 1073741824)).tdiv 1073741824) + 1)), [oGeq 2 .i64 (x % 1073741824) 536870912 true]) := by kernel_rfl
set_option maxRecDepth 100000 in
theorem round_run1 (x : Int) : runP (cxR [] [(57, .one)] [(4, false)]) (tabOf [modE]) 200 105 [.opq 0, .lit (.int .i64 30)] [.int .i64 x] = some (.int .i64 (IntKind.i64.wrap ((IntKind.i64.wrap (x - x % 1073741824)).tdiv 1073741824)), [oGeq 2 .i64 (x % 1073741824) 536870912 false]) := by kernel_rfl
theorem refRound (x : Int) (hx : -9223372036854775808 ≤ x ∧ x ≤ 9223372036854775807) (w : World) : Calls Tryz.prog 105 #[.int .i64 x, .int .i64 30] w fun e w' => e = .returned (.int .i64 (rndI x)) ∧ Chg w w' [] := by
  by_cases h : 536870912 ≤ x % 1073741824
  · have hr : rndI x = IntKind.i64.wrap (IntKind.i64.wrap ((IntKind.i64.wrap (x - x % 1073741824)).tdiv 1073741824) + 1) := by unfold rndI; rw [decide_eq_true h]; rfl
    rw [hr]
    exact cxR_calls _ (round_run0 x) (insI hx) (obs1 (oGeq_ok (by simpa using h))) w
  · have hr : rndI x = IntKind.i64.wrap ((IntKind.i64.wrap (x - x % 1073741824)).tdiv 1073741824) := by unfold rndI; rw [decide_eq_false h]; rfl
    rw [hr]
    exact cxR_calls _ (round_run1 x) (insI hx) (obs1 (oGeq_ok (by simpa using h))) w
def fRound : List Value → Option Value
  | [.int .i64 a, .int .i64 b] => bif decide (b = 30) then some (.int .i64 (rndI a)) else none
  | _ => none
theorem rndI_64 (x : Int) : -9223372036854775808 ≤ rndI x ∧ rndI x ≤ 9223372036854775807 := by
  unfold rndI
  generalize (IntKind.i64.wrap (x - x % 1073741824)).tdiv 1073741824 = q
  cases decide (536870912 ≤ x % 1073741824) <;> simp only [cond_true, cond_false, IntKind.wrap_i64] <;> omega
noncomputable def roundE : Ent where
  f := 105
  fn := fRound
  ok := fun us v hv hg => by
    unfold fRound at hv
    split at hv
    · rename_i a b
      cases hb : decide (b = 30) with
      | false => rw [hb] at hv; cases hv
      | true =>
        rw [hb] at hv
        injection hv with hv
        subst hv
        obtain rfl := of_decide_eq_true hb
        exact ⟨goodC_64 (rndI_64 a), refRound a (in64_of_good (good1_int (hg (.int .i64 a) (by simp))))⟩
    · cases hv
set_option maxRecDepth 100000 in
theorem mulq_run (a b : Wd) : runP (cxR [] [(79, .one), (105, .one)] []) (tabOf [satE, roundE]) 100 65 [.opq 0, .opq 1] [.int .i32 a.v, .int .i32 b.v] = some (.int .i32 (satW (rndI (IntKind.i64.wrap (IntKind.i64.wrap a.v * IntKind.i64.wrap b.v)))).v, []) := by kernel_rfl
theorem rndI_eq {p : Int} (h : -4611686018427387904 ≤ p ∧ p ≤ 4611686018427387904) : rndI p = p / 1073741824 + p / 536870912 % 2 := by
  have e1 : IntKind.i64.wrap (p - p % 1073741824) = 1073741824 * (p / 1073741824) := by rw [IntKind.wrap_i64]; omega
  have e2 : IntKind.i64.wrap ((1073741824 * (p / 1073741824)).tdiv 1073741824) = p / 1073741824 := by rw [Int.mul_tdiv_cancel_left _ (by omega), IntKind.wrap_i64]; omega
  unfold rndI
  rw [e1, e2]
  by_cases h2 : 536870912 ≤ p % 1073741824
  · rw [decide_eq_true h2]
    simp only [cond_true, IntKind.wrap_i64]
    omega
  · rw [decide_eq_false h2]
    simp only [cond_false]
    omega
theorem refMulq (a b : Wd) (w : World) : Calls Tryz.prog 65 #[.int .i32 a.v, .int .i32 b.v] w fun e w' => e = .returned (.int .i32 (mulqW a b).v) ∧ Chg w w' [] := by
  have h := cxR_calls _ (mulq_run a b) (good_2 a b) obs0 w
  have hp := prod_bound a.ok b.ok
  rw [w64, w64, show IntKind.i64.wrap (a.v * b.v) = a.v * b.v by rw [IntKind.wrap_i64]; generalize a.v * b.v = p at *; omega] at h
  have e : (satW (rndI (a.v * b.v))).v = (mulqW a b).v := by
    show satI (rndI (a.v * b.v)) = satI (a.v * b.v / 1073741824 + a.v * b.v / 536870912 % 2)
    rw [rndI_eq hp]
  rw [e] at h
  exact h
noncomputable def mulqE : Ent := ent2 65 (fun a b => .int .i32 (mulqW a b).v) (fun _ _ => goodC_w _) refMulq
end Go.Proofs.YtkfkoobdmnndcaaGreat.Xi
