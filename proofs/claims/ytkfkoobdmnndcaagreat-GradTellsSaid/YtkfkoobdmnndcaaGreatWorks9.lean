/- Rate, Times, Pull, errors, Field of package works at numbers: runs on the mill. -/
import Derived.Test.YtkfkoobdmnndcaaGreatWorks8
namespace Go.Proofs.YtkfkoobdmnndcaaGreat
open Go.RowKit Go.Deep
set_option linter.unusedVariables false
namespace Xm
open Xi
set_option maxRecDepth 100000 in
theorem rate_run (b : Nat) (q0 q1 q2 q3 x y z : Wd) : runM (cxM []) 1000000 ([] ++ opsM b) 200 87 [mil b, .agg (opqs 4 0), .agg (opqs 3 4)] [q0, q1, q2, q3, x, y, z] = some (.a [(rateW q0 q1 q2 q3 x y z).a, (rateW q0 q1 q2 q3 x y z).b, (rateW q0 q1 q2 q3 x y z).c, (rateW q0 q1 q2 q3 x y z).d], 0, pp b 22) := by kernel_rfl
def entRate (b : Nat) : EntM b := entCell b 87 1000000 0 (RA43 fun q0 q1 q2 q3 x y z => .a [(rateW q0 q1 q2 q3 x y z).a, (rateW q0 q1 q2 q3 x y z).b, (rateW q0 q1 q2 q3 x y z).c, (rateW q0 q1 q2 q3 x y z).d]) fun us o hv hp n w hn hpl => by
  unfold RA43 at hv
  split at hv
  · rename_i p q0 q1 q2 q3 x y z
    injection hv with hv
    subst hv
    obtain rfl := hp p (.inl (by simp))
    exact cxM_calls (rate_run b q0 q1 q2 q3 x y z) hn w hpl rfl
  · cases hv
set_option maxRecDepth 100000 in
theorem times_run (b : Nat) (q0 q1 q2 q3 x y z t : Wd) : runM (cxM []) 1000000 ([] ++ opsM b) 200 86 [mil b, .agg (opqs 4 0), .agg (opqs 4 4)] [q0, q1, q2, q3, x, y, z, t] = some (.a [(timesW q0 q1 q2 q3 x y z t).a, (timesW q0 q1 q2 q3 x y z t).b, (timesW q0 q1 q2 q3 x y z t).c, (timesW q0 q1 q2 q3 x y z t).d], 0, pp b 28) := by kernel_rfl
def entTimes (b : Nat) : EntM b := entCell b 86 1000000 0 (RA44 fun q0 q1 q2 q3 x y z t => .a [(timesW q0 q1 q2 q3 x y z t).a, (timesW q0 q1 q2 q3 x y z t).b, (timesW q0 q1 q2 q3 x y z t).c, (timesW q0 q1 q2 q3 x y z t).d]) fun us o hv hp n w hn hpl => by
  unfold RA44 at hv
  split at hv
  · rename_i p q0 q1 q2 q3 x y z t
    injection hv with hv
    subst hv
    obtain rfl := hp p (.inl (by simp))
    exact cxM_calls (times_run b q0 q1 q2 q3 x y z t) hn w hpl rfl
  · cases hv
set_option maxRecDepth 100000 in
theorem pull_run (b : Nat) (q0 q1 q2 q3 x y z : Wd) : runM (cxM []) 1000000 ([] ++ opsM b) 200 43 [mil b, .agg (opqs 4 0), .agg (opqs 3 4)] [q0, q1, q2, q3, x, y, z] = some (.a [(pullW q0 q1 q2 q3 x y z).a, (pullW q0 q1 q2 q3 x y z).b, (pullW q0 q1 q2 q3 x y z).c, (pullW q0 q1 q2 q3 x y z).d], 0, pp b 37) := by kernel_rfl
def entPull (b : Nat) : EntM b := entCell b 43 1000000 0 (RA43 fun q0 q1 q2 q3 x y z => .a [(pullW q0 q1 q2 q3 x y z).a, (pullW q0 q1 q2 q3 x y z).b, (pullW q0 q1 q2 q3 x y z).c, (pullW q0 q1 q2 q3 x y z).d]) fun us o hv hp n w hn hpl => by
  unfold RA43 at hv
  split at hv
  · rename_i p q0 q1 q2 q3 x y z
    injection hv with hv
    subst hv
    obtain rfl := hp p (.inl (by simp))
    exact cxM_calls (pull_run b q0 q1 q2 q3 x y z) hn w hpl rfl
  · cases hv
set_option maxRecDepth 100000 in
theorem errors_run (b : Nat) (q0 q1 q2 q3 u v x y z : Wd) : runM (cxM []) 1000000 ([] ++ opsM b) 200 89 [mil b, .agg (opqs 4 0), .opq 4, .opq 5, .agg (opqs 3 6)] [q0, q1, q2, q3, u, v, x, y, z] = some (.a [(errorsW q0 q1 q2 q3 u v x y z).a, (errorsW q0 q1 q2 q3 u v x y z).b, (errorsW q0 q1 q2 q3 u v x y z).c], 0, pp b 37) := by kernel_rfl
def entErrors (b : Nat) : EntM b := entCell b 89 1000000 0 (RAE fun q0 q1 q2 q3 u v x y z => .a [(errorsW q0 q1 q2 q3 u v x y z).a, (errorsW q0 q1 q2 q3 u v x y z).b, (errorsW q0 q1 q2 q3 u v x y z).c]) fun us o hv hp n w hn hpl => by
  unfold RAE at hv
  split at hv
  · rename_i p q0 q1 q2 q3 u v x y z
    injection hv with hv
    subst hv
    obtain rfl := hp p (.inl (by simp))
    exact cxM_calls (errors_run b q0 q1 q2 q3 u v x y z) hn w hpl rfl
  · cases hv
def fieldS : List (FuncId × Sh) := [(74, .one), (87, .agg 4), (86, .agg 4), (89, .agg 3)]
def fieldT (b : Nat) : List (EntM b) := [entSqrt b, entRate b, entTimes b, entErrors b]
set_option maxRecDepth 100000 in
theorem field_run (b : Nat) (q0 q1 q2 q3 x y z : Wd) : runM (cxM fieldS) 900 (fieldT b ++ opsM b) 200 48 [mil b, .agg (opqs 4 0), .agg (opqs 3 4)] [q0, q1, q2, q3, x, y, z] = some (.a [(fieldW q0 q1 q2 q3 x y z).a, (fieldW q0 q1 q2 q3 x y z).b, (fieldW q0 q1 q2 q3 x y z).c, (fieldW q0 q1 q2 q3 x y z).d], 1, pp b 56) := by kernel_rfl
end Xm
theorem wfield_calls (b : Nat) (q0 q1 q2 q3 f0 f1 f2 : Wd) (n : Nat) (w : World) (hn : n ≤ 900) (hpl : PlR w b (most n)) :
    Calls Tryz.prog 48 #[.agg #[.iface 59 (.pointer (some ⟨b, 0, none⟩))], .agg #[.int .i32 q0.v, .int .i32 q1.v, .int .i32 q2.v, .int .i32 q3.v], .agg #[.int .i32 f0.v, .int .i32 f1.v, .int .i32 f2.v]] w fun e w' => e = .returned (.agg #[.int .i32 (fieldW q0 q1 q2 q3 f0 f1 f2).a.v, .int .i32 (fieldW q0 q1 q2 q3 f0 f1 f2).b.v, .int .i32 (fieldW q0 q1 q2 q3 f0 f1 f2).c.v, .int .i32 (fieldW q0 q1 q2 q3 f0 f1 f2).d.v]) ∧ PlR w' b (most (n + 1)) ∧ Turn w b w' := Xm.cxM_calls (Xm.field_run b q0 q1 q2 q3 f0 f1 f2) hn w hpl rfl
namespace Xm
open Xi
def entField (b : Nat) : EntM b := entCell b 48 900 1 (RA43 fun q0 q1 q2 q3 x y z => .a [(fieldW q0 q1 q2 q3 x y z).a, (fieldW q0 q1 q2 q3 x y z).b, (fieldW q0 q1 q2 q3 x y z).c, (fieldW q0 q1 q2 q3 x y z).d]) fun us o hv hp n w hn hpl => by
  unfold RA43 at hv
  split at hv
  · rename_i p q0 q1 q2 q3 x y z
    injection hv with hv
    subst hv
    obtain rfl := hp p (.inl (by simp))
    exact wfield_calls b q0 q1 q2 q3 x y z n w hn hpl
  · cases hv
end Xm
end Go.Proofs.YtkfkoobdmnndcaaGreat
