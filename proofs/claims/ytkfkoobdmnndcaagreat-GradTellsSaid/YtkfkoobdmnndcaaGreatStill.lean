/- Who stands upright has not to turn; the examples of layer 33. -/
import Derived.Test.YtkfkoobdmnndcaaGreatAwake3
import Derived.Laws.StructEq
import Derived.Laws.Tables
namespace Go.Proofs.YtkfkoobdmnndcaaGreat
open Go.RowKit Go.Deep
set_option linter.unusedVariables false
theorem eqQ (x0 x1 x2 x3 y0 y1 y2 y3 : Int) (w : World) : (Op.equalIn 10000 28 (.agg #[.int .i32 x0, .int .i32 x1, .int .i32 x2, .int .i32 x3]) (.agg #[.int .i32 y0, .int .i32 y1, .int .i32 y2, .int .i32 y3])).run Tryz.prog w = .ok (x0 == y0 && x1 == y1 && x2 == y2 && x3 == y3) w := by
  have u3 := Tryz.underlying21
  have k3 := Tryz.isAgg21
  have z3 := Tryz.sizeOf21
  rw [show (10000 : Nat) = 9999 + 1 from rfl, Op.equalIn]
  simp only [Sem.run_bind, run_underlying Tryz.underlying28, Result.andThen_ok]
  simp only [Std.Legacy.Range.forIn_eq_forIn_range', Std.Legacy.Range.size, Nat.sub_zero, Nat.add_sub_cancel, Nat.div_one, List.range'_succ, List.range'_zero, List.forIn_cons, List.forIn_nil]
  go_simp
  by_cases h0 : x0 = y0 <;> by_cases h1 : x1 = y1 <;> by_cases h2 : x2 = y2 <;> by_cases h3 : x3 = y3 <;> simp [h0, h1, h2, h3]
def Z0 : Wd := lw 0 (by decide)
theorem mulq_zl {a b : Wd} (h : a = Z0) : mulqW a b = Z0 := by
  subst h; apply Wd.ext_; show mulqI 0 b.v = 0; unfold mulqI; simp [satI]; decide
theorem mulq_zr {a b : Wd} (h : b = Z0) : mulqW a b = Z0 := by
  subst h; apply Wd.ext_; show mulqI a.v 0 = 0; unfold mulqI; simp [satI]; decide
theorem subs_zz : subsW Z0 Z0 = Z0 := by apply Wd.ext_; decide
theorem adds_zz : addsW Z0 Z0 = Z0 := by apply Wd.ext_; decide
theorem down_z : downW Z0 1 = Z0 := by apply Wd.ext_; decide +kernel
theorem pullF2_still : pullF2 Z0 Z0 (lw 1073741824 (by decide)) = Z0 := by apply Wd.ext_; decide +kernel
theorem still (c s : Wd) : pullW c Z0 Z0 s Z0 Z0 (lw 1073741824 (by decide)) = ⟨Z0, Z0, Z0, Z0⟩ := by
  have f0 : pullF0 c Z0 Z0 s Z0 = Z0 := by
    unfold pullF0 lessW
    rw [mulq_zl rfl, mulq_zr rfl, down_z]
    simp only [List.foldl, subs_zz]
  have f1 : pullF1 c Z0 Z0 s Z0 = Z0 := by
    unfold pullF1 lessW moreW
    rw [mulq_zl (b := s) rfl, mulq_zr rfl, down_z]
    simp only [List.foldl, subs_zz, adds_zz]
  unfold pullW
  rw [f0, f1, pullF2_still]
  unfold pullOf lessW moreW
  have a1 : mulqW s Z0 = Z0 := mulq_zr rfl
  have a2 : mulqW c Z0 = Z0 := mulq_zr rfl
  have a3 : mulqW Z0 Z0 = Z0 := mulq_zr rfl
  simp only [List.foldl, a1, a2, a3, subs_zz, adds_zz, down_z]
theorem awake33_unit : 1073676288 < (evenW Z0 (lw 268435456 (by decide)) Z0 Z0).b.v ∧ (evenW Z0 (lw 268435456 (by decide)) Z0 Z0).a.v = 0 := by decide +kernel
theorem awake33_imu : (pullW (lw 1073741824 (by decide)) Z0 Z0 Z0 (lw 1073741824 (by decide)) Z0 Z0).c.v = 268435456 := by decide +kernel
end Go.Proofs.YtkfkoobdmnndcaaGreat
