/- clip, Unit of package works at numbers: runs on the mill. -/
import Derived.Test.YtbmfcedndbgpoaaGreatWorks8
namespace Go.Proofs.YtbmfcedndbgpoaaGreat
open Go.RowKit Go.Deep
set_option linter.unusedVariables false
namespace Xm
open Xi
set_option maxRecDepth 100000 in
theorem unit_run (b : Nat) (x0 x1 x2 x3 : Wd) : runM (cxM rootS) 900 ([entRoot b] ++ opsM b) 200 120 [mil b, .agg (opqs 4 0)] [x0, x1, x2, x3] = some (.a [(unitW x0 x1 x2 x3).a, (unitW x0 x1 x2 x3).b, (unitW x0 x1 x2 x3).c, (unitW x0 x1 x2 x3).d], 1, pp b 16) := by kernel_rfl
end Xm
theorem wunit_calls (b : Nat) (x0 x1 x2 x3 : Wd) (n : Nat) (w : World) (hn : n ≤ 900) (hpl : PlR w b (most n)) :
    Calls Tryz.prog 120 #[.agg #[.iface 74 (.pointer (some ⟨b, 0, none⟩))], .agg #[.int .i32 x0.v, .int .i32 x1.v, .int .i32 x2.v, .int .i32 x3.v]] w fun e w' => e = .returned (.agg #[.int .i32 (unitW x0 x1 x2 x3).a.v, .int .i32 (unitW x0 x1 x2 x3).b.v, .int .i32 (unitW x0 x1 x2 x3).c.v, .int .i32 (unitW x0 x1 x2 x3).d.v]) ∧ PlR w' b (most (n + 1)) ∧ Turn w b w' := Xm.cxM_calls (Xm.unit_run b x0 x1 x2 x3) hn w hpl rfl
namespace Xm
open Xi
def entUnit (b : Nat) : EntM b := entCell b 120 900 1 (RA4 fun x0 x1 x2 x3 => .a [(unitW x0 x1 x2 x3).a, (unitW x0 x1 x2 x3).b, (unitW x0 x1 x2 x3).c, (unitW x0 x1 x2 x3).d]) fun us o hv hp n w hn hpl => by
  unfold RA4 at hv
  split at hv
  · rename_i p x0 x1 x2 x3
    injection hv with hv
    subst hv
    obtain rfl := hp p (.inl (by simp))
    exact wunit_calls b x0 x1 x2 x3 n w hn hpl
  · cases hv
end Xm
end Go.Proofs.YtbmfcedndbgpoaaGreat
