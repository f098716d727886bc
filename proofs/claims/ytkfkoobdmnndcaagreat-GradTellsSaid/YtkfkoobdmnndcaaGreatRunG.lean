/- Layer 32: the reference's norm, gates, Unit are the program's. -/
import Derived.Test.YtkfkoobdmnndcaaGreatRunF
import Derived.Test.YtkfkoobdmnndcaaGreatRef32b
import Derived.Test.YtkfkoobdmnndcaaGreatTop1
import Derived.Test.YtkfkoobdmnndcaaGreatAwake3
import Derived.Laws.StructEq
import Derived.Laws.Tables
namespace Go.Proofs.YtkfkoobdmnndcaaGreat.Xi
open Go Go.RowKit
set_option linter.unusedVariables false
def RV (F : Wd → Wd → Wd → Value) : List PA → Option Value
  | [.a [x, y, z]] => some (F x y z)
  | _ => none
def entV (f : FuncId) (F : Wd → Wd → Wd → Value) (hR : ∀ a b c, goodC (F a b c)) (h : ∀ (a b c : Wd) (w : World), Calls Tryz.prog f #[.agg #[.int .i32 a.v, .int .i32 b.v, .int .i32 c.v]] w fun e w' => e = .returned (F a b c) ∧ Chg w w' []) : Ent :=
  entP f (RV F) fun ps v hv => by
    unfold RV at hv
    split at hv
    · injection hv with hv
      subst hv
      exact ⟨hR _ _ _, h _ _ _⟩
    · cases hv
def q4 (a b c d : Wd) : Value := .agg #[.int .i32 a.v, .int .i32 b.v, .int .i32 c.v, .int .i32 d.v]
def q3 (a b c : Wd) : Value := .agg #[.int .i32 a.v, .int .i32 b.v, .int .i32 c.v]
theorem goodC_q3 (a b c : Wd) : goodC (q3 a b c) := goodC_l [a, b, c]
theorem goodC_q4 (a b c d : Wd) : goodC (q4 a b c d) := goodC_l [a, b, c, d]
/-! ### Lists compared -/
theorem eqV (x0 x1 x2 y0 y1 y2 : Int) (w : World) : (Op.equalIn 10000 22 (.agg #[.int .i32 x0, .int .i32 x1, .int .i32 x2]) (.agg #[.int .i32 y0, .int .i32 y1, .int .i32 y2])).run Tryz.prog w = .ok (x0 == y0 && x1 == y1 && x2 == y2) w := by
  have u3 := Tryz.underlying21
  have k3 := Tryz.isAgg21
  have z3 := Tryz.sizeOf21
  rw [show (10000 : Nat) = 9999 + 1 from rfl, Op.equalIn]
  simp only [Sem.run_bind, run_underlying Tryz.underlying22, Result.andThen_ok]
  simp only [Std.Legacy.Range.forIn_eq_forIn_range', Std.Legacy.Range.size, Nat.sub_zero, Nat.add_sub_cancel, Nat.div_one, List.range'_succ, List.range'_zero, List.forIn_cons, List.forIn_nil]
  go_simp
  by_cases h0 : x0 = y0 <;> by_cases h1 : x1 = y1 <;> by_cases h2 : x2 = y2 <;> simp [h0, h1, h2]
theorem oArr_ok {T : TypeId} {xs ys : Array Value} {r : Bool} (hm : Tryz.prog.eqGuardType Tryz.prog.depth T = false) (h : ∀ w, (Op.equalIn 10000 T (.agg xs) (.agg ys)).run Tryz.prog w = .ok r w) : ObOk Tryz.prog (.test (.bin .eql T) [.agg xs, .agg ys] (.bool r)) := fun a b w => by
  rw [Sem.run_bind, run_eqGuard_agg w .eql T a b xs ys hm, Result.andThen_ok, run_eql_struct, h]
  rfl
theorem oV_same (a b c : Wd) : ObOk Tryz.prog (.test (.bin .eql 22) [q3 a b c, q3 a b c] (.bool true)) :=
  oArr_ok (by kernel_rfl) fun w => by rw [eqV]; simp
theorem oBool_ok (a : Bool) : ObOk Tryz.prog (.test (.bin .eql 4) [.bool a, .bool a] (.bool true)) := fun x y w => by
  have e : (binOp .eql 4 (.bool a) (.bool a)).run Tryz.prog w = ((Op.equal 4 (.bool a) (.bool a)).run Tryz.prog w).andThen fun b w' => .ok (.bool b) w' := by
    simp only [binOp]
    simp
  rw [Sem.run_bind, show (eqGuard .eql 4 x y (.bool a) (.bool a)).run Tryz.prog w = .ok () w by simp [eqGuard], Result.andThen_ok, e, run_equal_bool w 4 a a Tryz.underlying4]
  simp
/-! ### Norm, and gates -/
theorem square_ref (a b c : Wd) : (squareW a b c).v = refNorm a.v b.v c.v := by
  show addI (addI (mulI a.v a.v) (mulI b.v b.v)) (mulI c.v c.v) = _
  unfold addI mulI refNorm sqP
  generalize a.v * a.v = x
  generalize b.v * b.v = y
  generalize c.v * c.v = z
  unfold wrap32
  omega
theorem inside_ref (a b c : Wd) (lo hi : Int) (h0 : 0 ≤ lo ∧ lo ≤ 2147483647) (h1 : 0 ≤ hi ∧ hi ≤ 2147483647) :
    inside lo hi a.v b.v c.v = gateB (squareW a b c) lo hi := by
  have e := square_ref a b c
  have k0 : (kW lo).v = lo := kW_v ⟨by omega, by omega⟩
  have k1 : (kW hi).v = hi := kW_v ⟨by omega, by omega⟩
  have hw : (withinW (squareW a b c) (kW lo) (kW hi)).v = subI (orI (ltuI (squareW a b c).v (kW lo).v) (ltuI (kW hi).v (squareW a b c).v)) (kW 1).v := rfl
  unfold gateB
  rw [hw, e, k0, k1]
  unfold inside ltuI
  have m0 : lo % 4294967296 = lo := by omega
  have m1 : hi % 4294967296 = hi := by omega
  rw [m0, m1]
  generalize refNorm a.v b.v c.v % 4294967296 = p
  by_cases u : p < lo <;> by_cases v : hi < p
  · rw [if_pos u, if_pos v, show subI (orI 1 1) (kW 1).v = 0 by decide +kernel]; simp; omega
  · rw [if_pos u, if_neg v, show subI (orI 1 0) (kW 1).v = 0 by decide +kernel]; simp; omega
  · rw [if_neg u, if_pos v, show subI (orI 0 1) (kW 1).v = 0 by decide +kernel]; simp; omega
  · rw [if_neg u, if_neg v, show subI (orI 0 0) (kW 1).v = -1 by decide +kernel]; simp; omega
noncomputable def rNormE : Ent := entV 7 (fun a b c => .int .i32 (squareW a b c).v) (fun _ _ _ => goodC_w _) fun a b c w => by
  rw [square_ref]
  exact (refNorm_calls a.v b.v c.v w a.ok b.ok c.ok)
noncomputable def rAccelE : Ent := entV 9 (fun a b c => .bool (gateB (squareW a b c) 16777216 150994944)) (fun _ _ _ => goodC_b _) fun a b c w => by
  rw [← inside_ref a b c _ _ (by omega) (by omega)]
  exact (refAccel_calls a.v b.v c.v w a.ok b.ok c.ok)
noncomputable def rMagE : Ent := entV 11 (fun a b c => .bool (gateB (squareW a b c) 1000000 400000000)) (fun _ _ _ => goodC_b _) fun a b c w => by
  rw [← inside_ref a b c _ _ (by omega) (by omega)]
  exact (refMag_calls a.v b.v c.v w a.ok b.ok c.ok)
/-! ### Unit -/
def scK (a z h : Int) : Int := (scaledW (kW a) (kW z) (kW h)).v
def p3 (a b c : Wd) : Value := .agg #[.int .i32 a.v, .int .i32 b.v, .int .i32 c.v]
def gu (a b c : Wd) (v : Int) : Value := .int .i32 (scK (shlK v 15) (rootW (kW (squareW (kW a.v) (kW b.v) (kW c.v)).v)).1.v (rootW (kW (squareW (kW a.v) (kW b.v) (kW c.v)).v)).2.v)
set_option maxRecDepth 100000 in
theorem gunit_run (a b c : Wd) : runP (cxR [] [(7, .one), (32, .two .one .one), (34, .one), (33, .one)] []) (tabOf [rNormE, rsqrtE, shlE, scaleE]) 200 13 [.agg [.opq 0, .opq 1, .opq 2]] [.int .i32 a.v, .int .i32 b.v, .int .i32 c.v] =
    some (.agg #[gu a b c a.v, gu a b c b.v, gu a b c c.v], []) := by kernel_rfl
theorem refGUnit (a b c : Wd) (w : World) : Calls Tryz.prog 13 #[.agg #[.int .i32 a.v, .int .i32 b.v, .int .i32 c.v]] w fun e w' => e = .returned (q3 (pointW a b c).a (pointW a b c).b (pointW a b c).c) ∧ Chg w w' [] := by
  have h := cxR_calls _ (gunit_run a b c) (ins3 a b c) obs0 w
  unfold gu scK shlK at h
  simp only [kW_self] at h
  have e : q3 (pointW a b c).a (pointW a b c).b (pointW a b c).c = q3 (scaledW (shlW a (kW 15)) (rootW (squareW a b c)).1 (rootW (squareW a b c)).2) (scaledW (shlW b (kW 15)) (rootW (squareW a b c)).1 (rootW (squareW a b c)).2) (scaledW (shlW c (kW 15)) (rootW (squareW a b c)).1 (rootW (squareW a b c)).2) := by
    unfold pointW
    rw [up_eq a (by decide : In32 15), up_eq b (by decide : In32 15), up_eq c (by decide : In32 15)]
  rw [e]
  exact h
noncomputable def rUnitE : Ent := entV 13 (fun a b c => q3 (pointW a b c).a (pointW a b c).b (pointW a b c).c) (fun _ _ _ => goodC_q3 _ _ _) refGUnit
noncomputable def gNormE : Ent := entV 6 (fun a b c => .int .i32 (squareW a b c).v) (fun _ _ _ => goodC_w _) gnorm_calls
noncomputable def gAccelE : Ent := entV 8 (fun a b c => .bool (gateB (squareW a b c) 16777216 150994944)) (fun _ _ _ => goodC_b _) accel_calls
noncomputable def gMagE : Ent := entV 10 (fun a b c => .bool (gateB (squareW a b c) 1000000 400000000)) (fun _ _ _ => goodC_b _) mag_calls
noncomputable def gUnitE : Ent := entV 12 (fun a b c => q3 (pointW a b c).a (pointW a b c).b (pointW a b c).c) (fun _ _ _ => goodC_q3 _ _ _) gunit_calls
/-! ### The law -/
def gS : List (FuncId × Sh) := [(6, .one), (7, .one), (8, .one), (9, .one), (10, .one), (11, .one), (12, .agg 3), (13, .agg 3)]
noncomputable def gT : List Ent := [gNormE, rNormE, gAccelE, rAccelE, gMagE, rMagE, gUnitE, rUnitE]
def sqK (a b c : Wd) : Wd := squareW (kW a.v) (kW b.v) (kW c.v)
def ptK (a b c : Wd) : Value := q3 (pointW (kW a.v) (kW b.v) (kW c.v)).a (pointW (kW a.v) (kW b.v) (kW c.v)).b (pointW (kW a.v) (kW b.v) (kW c.v)).c
set_option maxRecDepth 100000 in
theorem gateTells_run (a b c : Wd) : runP (cxR [(14, .lit (.bool true))] gS [(5, true), (8, true), (11, true), (18, true)]) (tabOf gT) 200 3 [.agg [.opq 0, .opq 1, .opq 2]] [.int .i32 a.v, .int .i32 b.v, .int .i32 c.v] =
    some (.bool true, [.call 14 [] (.bool true), .test (.bin .eql 22) [ptK a b c, ptK a b c] (.bool true),
      .test (.bin .eql 4) [.bool (gateB (sqK a b c) 1000000 400000000), .bool (gateB (sqK a b c) 1000000 400000000)] (.bool true),
      .test (.bin .eql 4) [.bool (gateB (sqK a b c) 16777216 150994944), .bool (gateB (sqK a b c) 16777216 150994944)] (.bool true),
      oEql 21 .i32 (sqK a b c).v (sqK a b c).v true]) := by kernel_rfl
theorem gateTells_calls (a b c : Wd) (w : World) : Calls Tryz.prog 3 #[.agg #[.int .i32 a.v, .int .i32 b.v, .int .i32 c.v]] w fun e w' => e = .returned (.bool true) ∧ Chg w w' [] :=
  cxR_calls _ (gateTells_run a b c) (ins3 a b c) (obsC (fun w => awake32_calls w) (obsC (oV_same _ _ _) (obsC (oBool_ok _) (obsC (oBool_ok _) (obs1 (oEql_ok (by simp))))))) w
end Go.Proofs.YtkfkoobdmnndcaaGreat.Xi
