/- GradTells, as a run. -/
import Derived.Test.YtkfkoobdmnndcaaGreatRunH
import Derived.Test.YtkfkoobdmnndcaaGreatTop2
import Derived.Test.YtkfkoobdmnndcaaGreatStill33
namespace Go.Proofs.YtkfkoobdmnndcaaGreat.Xi
open Go Go.RowKit
set_option linter.unusedVariables false
theorem oQ_same (x : Q4) : ObOk Tryz.prog (.test (.bin .eql 28) [qv x, qv x] (.bool true)) :=
  oArr_ok (by kernel_rfl) fun w => by rw [eqQ]; simp
noncomputable def gImuE : Ent := entQV 18 (fun a b c d x y z => qv (pullW a b c d x y z)) (fun _ _ _ _ _ _ _ => goodC_qv _) imu_calls
noncomputable def gDMagE : Ent := entQV 20 (fun a b c d x y z => qv (fieldW a b c d x y z)) (fun _ _ _ _ _ _ _ => goodC_qv _) dmag_calls
noncomputable def gDUnitE : Ent := entQ 22 (fun a b c d => qv (evenW a b c d)) (fun _ _ _ _ => goodC_qv _) dunit_calls
def grS : List (FuncId × Sh) := [(18, .agg 4), (19, .agg 4), (20, .agg 4), (21, .agg 4), (22, .agg 4), (23, .agg 4)]
noncomputable def grT : List Ent := [gImuE, rImuE, gDMagE, rDMagE, gDUnitE, rDUnitE]
def puK (a b c d x y z : Wd) : Q4 := pullW (kW a.v) (kW b.v) (kW c.v) (kW d.v) (kW x.v) (kW y.v) (kW z.v)
def fiK (a b c d x y z : Wd) : Q4 := fieldW (kW a.v) (kW b.v) (kW c.v) (kW d.v) (kW x.v) (kW y.v) (kW z.v)
def evK (a b c d : Wd) : Q4 := evenW (kW a.v) (kW b.v) (kW c.v) (kW d.v)
def in10 (a b c d x y z u v t : Wd) : List Value := [.int .i32 a.v, .int .i32 b.v, .int .i32 c.v, .int .i32 d.v, .int .i32 x.v, .int .i32 y.v, .int .i32 z.v, .int .i32 u.v, .int .i32 v.v, .int .i32 t.v]
set_option maxRecDepth 100000 in
theorem gradTells_run (a b c d x y z u v t : Wd) : runP (cxR [(24, .lit (.bool true))] grS [(18, true), (27, true), (36, true)]) (tabOf grT) 200 5 [.agg (opqs 4 0), .agg (opqs 3 4), .agg (opqs 3 7)] (in10 a b c d x y z u v t) =
    some (.bool true, [.call 24 [] (.bool true), .test (.bin .eql 28) [qv (evK a b c d), qv (evK a b c d)] (.bool true),
      .test (.bin .eql 28) [qv (fiK a b c d u v t), qv (fiK a b c d u v t)] (.bool true), .test (.bin .eql 28) [qv (puK a b c d x y z), qv (puK a b c d x y z)] (.bool true)]) := by kernel_rfl
theorem gradTells_calls (a b c d x y z u v t : Wd) (w : World) : Calls Tryz.prog 5 #[.agg #[.int .i32 a.v, .int .i32 b.v, .int .i32 c.v, .int .i32 d.v], .agg #[.int .i32 x.v, .int .i32 y.v, .int .i32 z.v], .agg #[.int .i32 u.v, .int .i32 v.v, .int .i32 t.v]] w fun e w' => e = .returned (.bool true) ∧ Chg w w' [] :=
  cxR_calls _ (gradTells_run a b c d x y z u v t) (goodL_l [a, b, c, d, x, y, z, u, v, t]) (obsC (fun w => awake33_calls w) (obsC (oQ_same _) (obsC (oQ_same _) (obs1 (oQ_same _))))) w
end Go.Proofs.YtkfkoobdmnndcaaGreat.Xi
