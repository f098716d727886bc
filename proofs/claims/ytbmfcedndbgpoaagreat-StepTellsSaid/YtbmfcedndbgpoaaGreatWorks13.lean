/- Sensed of package works at numbers: a run on the mill. -/
import Derived.Test.YtbmfcedndbgpoaaGreatWorks9
import Derived.Test.YtbmfcedndbgpoaaGreatWorks12
namespace Go.Proofs.YtbmfcedndbgpoaaGreat
open Go.RowKit Go.Deep
set_option linter.unusedVariables false
namespace Xm
open Xi
def sensedS : List (FuncId × Sh) := [(61, .agg 4), (107, .agg 4), (66, .agg 4), (71, .agg 4), (120, .agg 4), (46, .agg 3)]
def sensedT (b : Nat) : List (EntM b) := [entPull b, entRate b, entField b, entEven b, entUnit b, entPoint b]
set_option maxRecDepth 100000 in
theorem sensed_run (b : Nat) (q0 q1 q2 q3 u0 u1 u2 a0 a1 a2 v0 v1 v2 : Wd) : runM (cxM sensedS) 880 (sensedT b ++ opsM b) 200 73 [mil b, .agg (opqs 4 0), .agg (opqs 3 4), .agg (opqs 3 7), .agg (opqs 3 10)] [q0, q1, q2, q3, u0, u1, u2, a0, a1, a2, v0, v1, v2] = some (.t [.a [(sensedW q0 q1 q2 q3 u0 u1 u2 a0 a1 a2 v0 v1 v2).a, (sensedW q0 q1 q2 q3 u0 u1 u2 a0 a1 a2 v0 v1 v2).b, (sensedW q0 q1 q2 q3 u0 u1 u2 a0 a1 a2 v0 v1 v2).c, (sensedW q0 q1 q2 q3 u0 u1 u2 a0 a1 a2 v0 v1 v2).d], .w (sensedA a0 a1 a2), .w (sensedM v0 v1 v2)], 5, pp b 74) := by kernel_rfl
end Xm
theorem wsensed_calls (b : Nat) (q0 q1 q2 q3 u0 u1 u2 a0 a1 a2 v0 v1 v2 : Wd) (n : Nat) (w : World) (hn : n ≤ 880) (hpl : PlR w b (most n)) :
    Calls Tryz.prog 73 #[.agg #[.iface 74 (.pointer (some ⟨b, 0, none⟩))], .agg #[.int .i32 q0.v, .int .i32 q1.v, .int .i32 q2.v, .int .i32 q3.v], .agg #[.int .i32 u0.v, .int .i32 u1.v, .int .i32 u2.v], .agg #[.int .i32 a0.v, .int .i32 a1.v, .int .i32 a2.v], .agg #[.int .i32 v0.v, .int .i32 v1.v, .int .i32 v2.v]] w fun e w' => e = .returned (.tuple #[.agg #[.int .i32 (sensedW q0 q1 q2 q3 u0 u1 u2 a0 a1 a2 v0 v1 v2).a.v, .int .i32 (sensedW q0 q1 q2 q3 u0 u1 u2 a0 a1 a2 v0 v1 v2).b.v, .int .i32 (sensedW q0 q1 q2 q3 u0 u1 u2 a0 a1 a2 v0 v1 v2).c.v, .int .i32 (sensedW q0 q1 q2 q3 u0 u1 u2 a0 a1 a2 v0 v1 v2).d.v], .int .i32 (sensedA a0 a1 a2).v, .int .i32 (sensedM v0 v1 v2).v]) ∧ PlR w' b (most (n + 5)) ∧ Turn w b w' := Xm.cxM_calls (Xm.sensed_run b q0 q1 q2 q3 u0 u1 u2 a0 a1 a2 v0 v1 v2) hn w hpl rfl
end Go.Proofs.YtbmfcedndbgpoaaGreat
