/- Angles of package works at numbers: a run on the mill. -/
import Derived.Test.YtihgijhjhmjolaaGreatDoorWorks10b
import Derived.Test.YtihgijhjhmjolaaGreatDoorVP7
namespace Go.Proofs.YtihgijhjhmjolaaGreatDoor
open Go.RowKit Go.Deep
set_option linter.unusedVariables false
namespace Xm
open Xi
def entAngle (b : Nat) : EntM b := entCell b 120 900 3 (R2 fun y x => .w (angleW y x)) fun us o hv hp n w hn hpl => by
 unfold R2 at hv
 split at hv
 · rename_i p y x
   injection hv with hv
   subst hv
   obtain rfl := hp p (.inl (by simp))
   exact wangle_calls b y x n w hn hpl
 · cases hv
def anglesS' : List (FuncId × Sh) := [(121, .one), (120, .one)]
set_option maxRecDepth 100000 in
theorem angles_run (b : Nat) (q0 q1 q2 q3 : Wd) : runM (cxM anglesS') 880 ([entSqrt b, entAngle b] ++ opsM b) 200 64 [mil b, .agg (opqs 4 0)] [q0, q1, q2, q3] =
 some (.t [.a [(anglesW q0 q1 q2 q3).a, (anglesW q0 q1 q2 q3).b, (anglesW q0 q1 q2 q3).c], .w (lockedW q0 q1 q2 q3)], 10, pp b 31) := by kernel_rfl
end Xm
theorem wangles_calls (b : Nat) (q0 q1 q2 q3 : Wd) (n : Nat) (w : World) (hn : n ≤ 880) (hpl : PlR w b (most n)) :
 Calls Tryz.prog 64 #[.agg #[.iface 152 (.pointer (some ⟨b, 0, none⟩))], .agg #[.int .i32 q0.v, .int .i32 q1.v, .int .i32 q2.v, .int .i32 q3.v]] w fun e w' => e = .returned (.tuple #[.agg #[.int .i32 (anglesW q0 q1 q2 q3).a.v, .int .i32 (anglesW q0 q1 q2 q3).b.v, .int .i32 (anglesW q0 q1 q2 q3).c.v], .int .i32 (lockedW q0 q1 q2 q3).v]) ∧ PlR w' b (most (n + 10)) ∧ Turn w b w' := Xm.cxM_calls (Xm.angles_run b q0 q1 q2 q3) hn w hpl rfl
end Go.Proofs.YtihgijhjhmjolaaGreatDoor
