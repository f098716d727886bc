/- Root as others use it, Sqrt, Pointing, Even of package works at numbers: runs on the mill. -/
import Derived.Test.YtkfkoobdmnndcaaGreatWorks7
import Derived.Test.YtkfkoobdmnndcaaGreatMillE
namespace Go.Proofs.YtkfkoobdmnndcaaGreat
open Go.RowKit Go.Deep
set_option linter.unusedVariables false
theorem wroot_calls (b : Nat) (x : Wd) (n : Nat) (w : World) (hn : n ≤ 900) (h : PlR w b (most n)) :
    Calls Tryz.prog 61 #[.agg #[.iface 59 (.pointer (some ⟨b, 0, none⟩))], .int .i32 x.v] w fun e w' => e = .returned (.tuple #[.int .i32 (rootW x).1.v, .int .i32 (rootW x).2.v]) ∧ PlR w' b (most (n + 1)) ∧ Turn w b w' := by
  obtain ⟨cs, ts, vc, vt, ⟨h1, h2⟩, hP⟩ := h
  refine (root_in b x cs ts w (by omega) ⟨cs, ts, vc, vt, ⟨rfl, rfl⟩, hP⟩).mono ?_
  rintro e w' ⟨he, hp, ht⟩
  exact ⟨he, hp.mono (fun c t ⟨h3, h4⟩ => by subst h3 h4; exact ⟨by simp; omega, by omega⟩), ht⟩
namespace Xm
open Xi
def entRoot (b : Nat) : EntM b := entCell b 61 900 1 (R1 fun x => .t [.w (rootW x).1, .w (rootW x).2]) fun us o hv hp n w hn hpl => by
  unfold R1 at hv
  split at hv
  · rename_i p x
    injection hv with hv
    subst hv
    obtain rfl := hp p (.inl (by simp))
    exact wroot_calls b x n w hn hpl
  · cases hv
def rootS : List (FuncId × Sh) := [(61, .two .one .one)]
set_option maxRecDepth 100000 in
theorem sqrt_run (b : Nat) (x : Wd) : runM (cxM rootS) 900 ([entRoot b] ++ opsM b) 200 74 [mil b, .opq 0] [x] = some (.w (sqrtW x), 1, pp b 3) := by kernel_rfl
set_option maxRecDepth 100000 in
theorem point_run (b : Nat) (x0 x1 x2 : Wd) : runM (cxM rootS) 900 ([entRoot b] ++ opsM b) 200 31 [mil b, .agg (opqs 3 0)] [x0, x1, x2] = some (.a [(pointW x0 x1 x2).a, (pointW x0 x1 x2).b, (pointW x0 x1 x2).c], 1, pp b 15) := by kernel_rfl
set_option maxRecDepth 100000 in
theorem even_run (b : Nat) (x0 x1 x2 x3 : Wd) : runM (cxM rootS) 900 ([entRoot b] ++ opsM b) 200 53 [mil b, .agg (opqs 4 0)] [x0, x1, x2, x3] = some (.a [(evenW x0 x1 x2 x3).a, (evenW x0 x1 x2 x3).b, (evenW x0 x1 x2 x3).c, (evenW x0 x1 x2 x3).d], 1, pp b 18) := by kernel_rfl
end Xm
theorem wsqrt_calls (b : Nat) (x : Wd) (n : Nat) (w : World) (hn : n ≤ 900) (h : PlR w b (most n)) :
    Calls Tryz.prog 74 #[.agg #[.iface 59 (.pointer (some ⟨b, 0, none⟩))], .int .i32 x.v] w fun e w' => e = .returned (.int .i32 (sqrtW x).v) ∧ PlR w' b (most (n + 1)) ∧ Turn w b w' := Xm.cxM_calls (Xm.sqrt_run b x) hn w h rfl
theorem wpoint_calls (b : Nat) (x0 x1 x2 : Wd) (n : Nat) (w : World) (hn : n ≤ 900) (hpl : PlR w b (most n)) :
    Calls Tryz.prog 31 #[.agg #[.iface 59 (.pointer (some ⟨b, 0, none⟩))], .agg #[.int .i32 x0.v, .int .i32 x1.v, .int .i32 x2.v]] w fun e w' => e = .returned (.agg #[.int .i32 (pointW x0 x1 x2).a.v, .int .i32 (pointW x0 x1 x2).b.v, .int .i32 (pointW x0 x1 x2).c.v]) ∧ PlR w' b (most (n + 1)) ∧ Turn w b w' := Xm.cxM_calls (Xm.point_run b x0 x1 x2) hn w hpl rfl
theorem weven_calls (b : Nat) (x0 x1 x2 x3 : Wd) (n : Nat) (w : World) (hn : n ≤ 900) (hpl : PlR w b (most n)) :
    Calls Tryz.prog 53 #[.agg #[.iface 59 (.pointer (some ⟨b, 0, none⟩))], .agg #[.int .i32 x0.v, .int .i32 x1.v, .int .i32 x2.v, .int .i32 x3.v]] w fun e w' => e = .returned (.agg #[.int .i32 (evenW x0 x1 x2 x3).a.v, .int .i32 (evenW x0 x1 x2 x3).b.v, .int .i32 (evenW x0 x1 x2 x3).c.v, .int .i32 (evenW x0 x1 x2 x3).d.v]) ∧ PlR w' b (most (n + 1)) ∧ Turn w b w' := Xm.cxM_calls (Xm.even_run b x0 x1 x2 x3) hn w hpl rfl
namespace Xm
open Xi
def entSqrt (b : Nat) : EntM b := entCell b 74 900 1 (R1 fun x => .w (sqrtW x)) fun us o hv hp n w hn hpl => by
  unfold R1 at hv
  split at hv
  · rename_i p x
    injection hv with hv
    subst hv
    obtain rfl := hp p (.inl (by simp))
    exact wsqrt_calls b x n w hn hpl
  · cases hv
def entPoint (b : Nat) : EntM b := entCell b 31 900 1 (RA3 fun x0 x1 x2 => .a [(pointW x0 x1 x2).a, (pointW x0 x1 x2).b, (pointW x0 x1 x2).c]) fun us o hv hp n w hn hpl => by
  unfold RA3 at hv
  split at hv
  · rename_i p x0 x1 x2
    injection hv with hv
    subst hv
    obtain rfl := hp p (.inl (by simp))
    exact wpoint_calls b x0 x1 x2 n w hn hpl
  · cases hv
def entEven (b : Nat) : EntM b := entCell b 53 900 1 (RA4 fun x0 x1 x2 x3 => .a [(evenW x0 x1 x2 x3).a, (evenW x0 x1 x2 x3).b, (evenW x0 x1 x2 x3).c, (evenW x0 x1 x2 x3).d]) fun us o hv hp n w hn hpl => by
  unfold RA4 at hv
  split at hv
  · rename_i p x0 x1 x2 x3
    injection hv with hv
    subst hv
    obtain rfl := hp p (.inl (by simp))
    exact weven_calls b x0 x1 x2 x3 n w hn hpl
  · cases hv
end Xm
end Go.Proofs.YtkfkoobdmnndcaaGreat
