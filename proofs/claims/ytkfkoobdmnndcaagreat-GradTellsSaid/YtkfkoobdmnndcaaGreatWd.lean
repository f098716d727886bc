/- Words, and the worker's methods at words. -/
import Derived.Test.YtkfkoobdmnndcaaGreatSel
namespace Go.Proofs.YtkfkoobdmnndcaaGreat
open Go.RowKit Go.Deep
set_option linter.unusedVariables false

/-- A word: a number of 32 bits. -/
structure Wd where
  v : Int
  ok : In32 v
theorem Wd.ext_ {a b : Wd} (h : a.v = b.v) : a = b := by cases a; cases b; cases h; rfl
/-- The word of a number. -/
def kW (n : Int) : Wd := ⟨wrap32 n, in_wrap n⟩
theorem kW_v {n : Int} (h : In32 n) : (kW n).v = n := by show wrap32 n = n; unfold In32 at h; unfold wrap32; omega
def addW (a b : Wd) : Wd := ⟨addI a.v b.v, in_add _ _⟩
def subW (a b : Wd) : Wd := ⟨subI a.v b.v, in_sub _ _⟩
def addsW (a b : Wd) : Wd := ⟨addsI a.v b.v, in_adds _ _⟩
def subsW (a b : Wd) : Wd := ⟨subsI a.v b.v, in_subs _ _⟩
def andW (a b : Wd) : Wd := ⟨andI a.v b.v, in_and _ _⟩
def orW (a b : Wd) : Wd := ⟨orI a.v b.v, in_or _ _⟩
def xorW (a b : Wd) : Wd := ⟨xorI a.v b.v, in_xor _ _⟩
def bicW (a b : Wd) : Wd := ⟨bicI a.v b.v, in_bic _ _⟩
def shlW (a b : Wd) : Wd := ⟨shlI a.v b.v, in_shl _ _⟩
def shrW (a b : Wd) : Wd := ⟨shrI a.v b.v, in_shr _ _⟩
def sarW (a b : Wd) : Wd := ⟨sarI a.v b.v, in_sar _ _ a.ok⟩
def sltW (a b : Wd) : Wd := ⟨ltI a.v b.v, in_lt _ _⟩
def sltuW (a b : Wd) : Wd := ⟨ltuI a.v b.v, in_ltu _ _⟩
def mulW (a b : Wd) : Wd := ⟨mulI a.v b.v, in_mul _ _⟩
def mulqW (a b : Wd) : Wd := ⟨mulqI a.v b.v, in_mulq _ _⟩
def minW (a b : Wd) : Wd := ⟨minI a.v b.v, in_min _ _ a.ok b.ok⟩
def maxW (a b : Wd) : Wd := ⟨maxI a.v b.v, in_max _ _ a.ok b.ok⟩
def clzW (a : Wd) : Wd := ⟨clzI a.v, in_clz _⟩
def negW (a : Wd) : Wd := ⟨negI a.v, in_neg _⟩
def absW (a : Wd) : Wd := ⟨absI a.v, in_abs _ a.ok⟩
def signW (a : Wd) : Wd := ⟨signI a.v, in_sign _ a.ok⟩
def selW (m a b : Wd) : Wd := orW (andW a m) (bicW b m)
def flipW (x m : Wd) : Wd := subW (xorW x m) m
def upW (a : Wd) (n : Int) : Wd := ⟨shlI a.v n, in_shl _ _⟩
def downW (a : Wd) (n : Int) : Wd := ⟨sarI a.v n, in_sar _ _ a.ok⟩

theorem w_add (p : Addr) (a b : Wd) (w : World) : Calls Tryz.prog 55 #[.agg #[.iface 59 (.pointer (some p))], .int .i32 a.v, .int .i32 b.v] w fun e w' => e = .returned (.int .i32 (addW a b).v) ∧ Chg w w' [] := work_add p a.v b.v w a.ok b.ok
theorem w_sub (p : Addr) (a b : Wd) (w : World) : Calls Tryz.prog 76 #[.agg #[.iface 59 (.pointer (some p))], .int .i32 a.v, .int .i32 b.v] w fun e w' => e = .returned (.int .i32 (subW a b).v) ∧ Chg w w' [] := work_sub p a.v b.v w a.ok b.ok
theorem w_adds (p : Addr) (a b : Wd) (w : World) : Calls Tryz.prog 95 #[.agg #[.iface 59 (.pointer (some p))], .int .i32 a.v, .int .i32 b.v] w fun e w' => e = .returned (.int .i32 (addsW a b).v) ∧ Chg w w' [] := work_adds p a.v b.v w a.ok b.ok
theorem w_subs (p : Addr) (a b : Wd) (w : World) : Calls Tryz.prog 103 #[.agg #[.iface 59 (.pointer (some p))], .int .i32 a.v, .int .i32 b.v] w fun e w' => e = .returned (.int .i32 (subsW a b).v) ∧ Chg w w' [] := work_subs p a.v b.v w a.ok b.ok
theorem w_and (p : Addr) (a b : Wd) (w : World) : Calls Tryz.prog 99 #[.agg #[.iface 59 (.pointer (some p))], .int .i32 a.v, .int .i32 b.v] w fun e w' => e = .returned (.int .i32 (andW a b).v) ∧ Chg w w' [] := work_and p a.v b.v w a.ok b.ok
theorem w_or (p : Addr) (a b : Wd) (w : World) : Calls Tryz.prog 97 #[.agg #[.iface 59 (.pointer (some p))], .int .i32 a.v, .int .i32 b.v] w fun e w' => e = .returned (.int .i32 (orW a b).v) ∧ Chg w w' [] := work_or p a.v b.v w a.ok b.ok
theorem w_xor (p : Addr) (a b : Wd) (w : World) : Calls Tryz.prog 119 #[.agg #[.iface 59 (.pointer (some p))], .int .i32 a.v, .int .i32 b.v] w fun e w' => e = .returned (.int .i32 (xorW a b).v) ∧ Chg w w' [] := work_xor p a.v b.v w a.ok b.ok
theorem w_bic (p : Addr) (a b : Wd) (w : World) : Calls Tryz.prog 120 #[.agg #[.iface 59 (.pointer (some p))], .int .i32 a.v, .int .i32 b.v] w fun e w' => e = .returned (.int .i32 (bicW a b).v) ∧ Chg w w' [] := work_bic p a.v b.v w a.ok b.ok
theorem w_shl (p : Addr) (a b : Wd) (w : World) : Calls Tryz.prog 102 #[.agg #[.iface 59 (.pointer (some p))], .int .i32 a.v, .int .i32 b.v] w fun e w' => e = .returned (.int .i32 (shlW a b).v) ∧ Chg w w' [] := work_shl p a.v b.v w a.ok b.ok
theorem w_shr (p : Addr) (a b : Wd) (w : World) : Calls Tryz.prog 101 #[.agg #[.iface 59 (.pointer (some p))], .int .i32 a.v, .int .i32 b.v] w fun e w' => e = .returned (.int .i32 (shrW a b).v) ∧ Chg w w' [] := work_shr p a.v b.v w a.ok b.ok
theorem w_sar (p : Addr) (a b : Wd) (w : World) : Calls Tryz.prog 113 #[.agg #[.iface 59 (.pointer (some p))], .int .i32 a.v, .int .i32 b.v] w fun e w' => e = .returned (.int .i32 (sarW a b).v) ∧ Chg w w' [] := work_sar p a.v b.v w a.ok b.ok
theorem w_slt (p : Addr) (a b : Wd) (w : World) : Calls Tryz.prog 77 #[.agg #[.iface 59 (.pointer (some p))], .int .i32 a.v, .int .i32 b.v] w fun e w' => e = .returned (.int .i32 (sltW a b).v) ∧ Chg w w' [] := work_slt p a.v b.v w a.ok b.ok
theorem w_sltu (p : Addr) (a b : Wd) (w : World) : Calls Tryz.prog 98 #[.agg #[.iface 59 (.pointer (some p))], .int .i32 a.v, .int .i32 b.v] w fun e w' => e = .returned (.int .i32 (sltuW a b).v) ∧ Chg w w' [] := work_sltu p a.v b.v w a.ok b.ok
theorem w_mul (p : Addr) (a b : Wd) (w : World) : Calls Tryz.prog 56 #[.agg #[.iface 59 (.pointer (some p))], .int .i32 a.v, .int .i32 b.v] w fun e w' => e = .returned (.int .i32 (mulW a b).v) ∧ Chg w w' [] := work_mul p a.v b.v w a.ok b.ok
theorem w_mulq (p : Addr) (a b : Wd) (w : World) : Calls Tryz.prog 70 #[.agg #[.iface 59 (.pointer (some p))], .int .i32 a.v, .int .i32 b.v] w fun e w' => e = .returned (.int .i32 (mulqW a b).v) ∧ Chg w w' [] := work_mulq p a.v b.v w a.ok b.ok
theorem w_min (p : Addr) (a b : Wd) (w : World) : Calls Tryz.prog 108 #[.agg #[.iface 59 (.pointer (some p))], .int .i32 a.v, .int .i32 b.v] w fun e w' => e = .returned (.int .i32 (minW a b).v) ∧ Chg w w' [] := work_min p a.v b.v w a.ok b.ok
theorem w_max (p : Addr) (a b : Wd) (w : World) : Calls Tryz.prog 106 #[.agg #[.iface 59 (.pointer (some p))], .int .i32 a.v, .int .i32 b.v] w fun e w' => e = .returned (.int .i32 (maxW a b).v) ∧ Chg w w' [] := work_max p a.v b.v w a.ok b.ok
theorem w_clz (p : Addr) (a : Wd) (w : World) : Calls Tryz.prog 100 #[.agg #[.iface 59 (.pointer (some p))], .int .i32 a.v] w fun e w' => e = .returned (.int .i32 (clzW a).v) ∧ Chg w w' [] := work_clz p a.v w a.ok
theorem w_neg (p : Addr) (a : Wd) (w : World) : Calls Tryz.prog 93 #[.agg #[.iface 59 (.pointer (some p))], .int .i32 a.v] w fun e w' => e = .returned (.int .i32 (negW a).v) ∧ Chg w w' [] := work_neg p a.v w a.ok
theorem w_abs (p : Addr) (a : Wd) (w : World) : Calls Tryz.prog 78 #[.agg #[.iface 59 (.pointer (some p))], .int .i32 a.v] w fun e w' => e = .returned (.int .i32 (absW a).v) ∧ Chg w w' [] := work_abs p a.v w a.ok
theorem w_sign (p : Addr) (a : Wd) (w : World) : Calls Tryz.prog 111 #[.agg #[.iface 59 (.pointer (some p))], .int .i32 a.v] w fun e w' => e = .returned (.int .i32 (signW a).v) ∧ Chg w w' [] := work_sign p a.v w a.ok
theorem w_sel (p : Addr) (m a b : Wd) (w : World) : Calls Tryz.prog 114 #[.agg #[.iface 59 (.pointer (some p))], .int .i32 m.v, .int .i32 a.v, .int .i32 b.v] w fun e w' => e = .returned (.int .i32 (selW m a b).v) ∧ Chg w w' [] := work_sel p m.v a.v b.v w m.ok a.ok b.ok
theorem w_flip (p : Addr) (x m : Wd) (w : World) : Calls Tryz.prog 112 #[.agg #[.iface 59 (.pointer (some p))], .int .i32 x.v, .int .i32 m.v] w fun e w' => e = .returned (.int .i32 (flipW x m).v) ∧ Chg w w' [] := work_flip p x.v m.v w x.ok m.ok
theorem w_up (p : Addr) (a : Wd) (n : Int) (w : World) (hn : In32 n) : Calls Tryz.prog 63 #[.agg #[.iface 59 (.pointer (some p))], .int .i32 a.v, .int .i32 n] w fun e w' => e = .returned (.int .i32 (upW a n).v) ∧ Chg w w' [] := work_up p a.v n w a.ok hn
theorem w_down (p : Addr) (a : Wd) (n : Int) (w : World) (hn : In32 n) : Calls Tryz.prog 85 #[.agg #[.iface 59 (.pointer (some p))], .int .i32 a.v, .int .i32 n] w fun e w' => e = .returned (.int .i32 (downW a n).v) ∧ Chg w w' [] := work_down p a.v n w a.ok hn
theorem w_const (p : Addr) (n : Int) (w : World) (hn : In32 n) : Calls Tryz.prog 139 #[.pointer (some p), .int .i32 n] w fun e w' => e = .returned (.int .i32 (kW n).v) ∧ Chg w w' [] :=
  (plain_const p n w).mono fun e w' ⟨he, hw⟩ => ⟨by rw [he, kW_v hn], hw ▸ Chg.refl w []⟩

end Go.Proofs.YtkfkoobdmnndcaaGreat
