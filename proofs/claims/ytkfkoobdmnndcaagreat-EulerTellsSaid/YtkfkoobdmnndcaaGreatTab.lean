/- Tables of calls that answer values: what they answer, and that it is so. -/
import Derived.Test.YtkfkoobdmnndcaaGreatXiV
import Derived.Test.YtkfkoobdmnndcaaGreatWd
namespace Go.Proofs.YtkfkoobdmnndcaaGreat.Xi
open Go Go.RowKit
set_option linter.unusedVariables false

/-- A call's answer. -/
structure Ent where
  f : FuncId
  fn : List Value → Option Value
  ok : ∀ us v, fn us = some v → (∀ u ∈ us, good1 u) → goodC v ∧ ∀ w : World, Calls Tryz.prog f us.toArray w fun e w' => e = .returned v ∧ Chg w w' []
def tabOf : List Ent → Tab
  | [], _, _ => none
  | e :: l, f, us => bif Nat.beq e.f f then e.fn us else tabOf l f us
theorem tabOf_ok : ∀ l : List Ent, TabOk Tryz.prog (tabOf l)
  | [], f, us, v, h, hg => by cases h
  | e :: l, f, us, v, h, hg => by
    unfold tabOf at h
    cases hb : Nat.beq e.f f with
    | true =>
      rw [hb] at h
      obtain rfl := beq_iff.1 hb
      exact e.ok us v h hg
    | false =>
      rw [hb] at h
      exact tabOf_ok l f us v h hg

/-- The shapes of answers. -/
inductive Sh where
  | one
  | agg (n : Nat)
  | two (a b : Sh)
  | three (a b c : Sh)
def opqs : Nat → Nat → List AV
  | 0, _ => []
  | n + 1, i => .opq i :: opqs n (Nat.succ i)
def Sh.mk : Sh → Nat → AV × Nat
  | .one, nv => (.opq nv, 1)
  | .agg n, nv => (.agg (opqs n nv), n)
  | .two a b, nv => match Sh.mk a nv with | (x, i) => match Sh.mk b (nv + i) with | (y, j) => (.tup [x, y], i + j)
  | .three a b c, nv => match Sh.mk a nv with | (x, i) => match Sh.mk b (nv + i) with | (y, j) => match Sh.mk c (nv + i + j) with | (z, k) => (.tup [x, y, z], i + j + k)
def shOf : List (FuncId × Sh) → FuncId → Option Sh
  | [], _ => none
  | (g, s) :: l, f => bif Nat.beq g f then some s else shOf l f
def litOf : List (FuncId × AV) → FuncId → Option AV
  | [], _ => none
  | (g, s) :: l, f => bif Nat.beq g f then some s else litOf l f
def brOf : List (Nat × Bool) → Nat → Option Bool
  | [], _ => none
  | (g, s) :: l, f => bif Nat.beq g f then some s else brOf l f
/-- A program's runs: calls that answer known values, calls that answer unknown ones, how tests come out. -/
noncomputable def cxR (lits : List (FuncId × AV)) (shs : List (FuncId × Sh)) (br : List (Nat × Bool)) : Cx where
  P := Tryz.prog
  ev := fun f _ nv => match litOf lits f with
    | some a => some (a, 0)
    | none => match shOf shs f with
      | some s => some (s.mk nv)
      | none => none
  lp := fun _ => false
  mt := fun _ _ => none
  br := brOf br
theorem cxR_calls {lits : List (FuncId × AV)} {shs : List (FuncId × Sh)} {br : List (Nat × Bool)} (l : List Ent) {fuel : Nat} {f : FuncId} {args : List AV} {ins : List Value} {out : Value} {obs : List Ob}
    (h : runP (cxR lits shs br) (tabOf l) fuel f args ins = some (out, obs)) (hg : goodL ins) (ho : ∀ ob ∈ obs, ObOk Tryz.prog ob) (w : World) :
    Calls Tryz.prog f (concL (getE ins) args).toArray w fun e w' => e = .returned out ∧ Chg w w' [] :=
  pure_calls (cx := cxR lits shs br) (by kernel_rfl) (fun t n g h => by cases h) (tabOf_ok l) h hg ho w

/-! ### What is in range -/
theorem good_w (x : Wd) : goodV (.int .i32 x.v) := by
  have := x.ok
  unfold In32 at this
  simp only [goodV, Lit.wf, IntKind.min, IntKind.max, IntKind.signed, IntKind.bits]
  simp
  omega
theorem kW_self (x : Wd) : kW x.v = x := Wd.ext_ (kW_v x.ok)
theorem in_of_good {n : Int} (h : goodV (.int .i32 n)) : In32 n := by
  simp only [goodV, Lit.wf, IntKind.min, IntKind.max, IntKind.signed, IntKind.bits] at h
  simp at h
  unfold In32
  omega
theorem kW_good {n : Int} (h : goodV (.int .i32 n)) : (kW n).v = n := kW_v (in_of_good h)
theorem good1_int {k : IntKind} {n : Int} (h : good1 (.int k n)) : goodV (.int k n) := by
  rcases h with h | ⟨ds, h, _⟩
  · exact h
  · cases h
theorem in64_of_good {n : Int} (h : goodV (.int .i64 n)) : -9223372036854775808 ≤ n ∧ n ≤ 9223372036854775807 := by
  simp only [goodV, Lit.wf, IntKind.min, IntKind.max, IntKind.signed, IntKind.bits] at h
  simp at h
  omega
theorem good_64 {n : Int} (h : -9223372036854775808 ≤ n ∧ n ≤ 9223372036854775807) : goodV (.int .i64 n) := by
  simp only [goodV, Lit.wf, IntKind.min, IntKind.max, IntKind.signed, IntKind.bits]
  simp
  omega

def f1 (R : Wd → Value) : List Value → Option Value
  | [.int .i32 a] => some (R (kW a))
  | _ => none
def f2 (R : Wd → Wd → Value) : List Value → Option Value
  | [.int .i32 a, .int .i32 b] => some (R (kW a) (kW b))
  | _ => none
def f3 (R : Wd → Wd → Wd → Value) : List Value → Option Value
  | [.int .i32 a, .int .i32 b, .int .i32 c] => some (R (kW a) (kW b) (kW c))
  | _ => none
def g1 (R : Int → Value) : List Value → Option Value
  | [.int .i64 a] => some (R a)
  | _ => none
def g2 (R : Int → Int → Value) : List Value → Option Value
  | [.int .i64 a, .int .i64 b] => some (R a b)
  | _ => none
def ent1 (f : FuncId) (R : Wd → Value) (hR : ∀ a, goodC (R a)) (h : ∀ (a : Wd) (w : World), Calls Tryz.prog f #[.int .i32 a.v] w fun e w' => e = .returned (R a) ∧ Chg w w' []) : Ent where
  f := f
  fn := f1 R
  ok := fun us v hv hg => by
    unfold f1 at hv
    split at hv
    · rename_i a
      injection hv with hv
      subst hv
      have ha := kW_good (good1_int (hg (.int .i32 a) (by simp)))
      refine ⟨hR _, fun w => ?_⟩
      have := h (kW a) w
      rw [ha] at this
      exact this
    · cases hv
def ent2 (f : FuncId) (R : Wd → Wd → Value) (hR : ∀ a b, goodC (R a b)) (h : ∀ (a b : Wd) (w : World), Calls Tryz.prog f #[.int .i32 a.v, .int .i32 b.v] w fun e w' => e = .returned (R a b) ∧ Chg w w' []) : Ent where
  f := f
  fn := f2 R
  ok := fun us v hv hg => by
    unfold f2 at hv
    split at hv
    · rename_i a b
      injection hv with hv
      subst hv
      have ha := kW_good (good1_int (hg (.int .i32 a) (by simp)))
      have hb := kW_good (good1_int (hg (.int .i32 b) (by simp)))
      refine ⟨hR _ _, fun w => ?_⟩
      have := h (kW a) (kW b) w
      rw [ha, hb] at this
      exact this
    · cases hv
def ent3 (f : FuncId) (R : Wd → Wd → Wd → Value) (hR : ∀ a b c, goodC (R a b c)) (h : ∀ (a b c : Wd) (w : World), Calls Tryz.prog f #[.int .i32 a.v, .int .i32 b.v, .int .i32 c.v] w fun e w' => e = .returned (R a b c) ∧ Chg w w' []) : Ent where
  f := f
  fn := f3 R
  ok := fun us v hv hg => by
    unfold f3 at hv
    split at hv
    · rename_i a b c
      injection hv with hv
      subst hv
      have ha := kW_good (good1_int (hg (.int .i32 a) (by simp)))
      have hb := kW_good (good1_int (hg (.int .i32 b) (by simp)))
      have hc := kW_good (good1_int (hg (.int .i32 c) (by simp)))
      refine ⟨hR _ _ _, fun w => ?_⟩
      have := h (kW a) (kW b) (kW c) w
      rw [ha, hb, hc] at this
      exact this
    · cases hv
theorem goodC_w (x : Wd) : goodC (.int .i32 x.v) := .inl (.inl (good_w x))
theorem goodC_64 {n : Int} (h : -9223372036854775808 ≤ n ∧ n ≤ 9223372036854775807) : goodC (.int .i64 n) := .inl (.inl (good_64 h))
def entG1 (f : FuncId) (R : Int → Value) (h : ∀ a : Int, -9223372036854775808 ≤ a ∧ a ≤ 9223372036854775807 → goodC (R a) ∧ ∀ w : World, Calls Tryz.prog f #[.int .i64 a] w fun e w' => e = .returned (R a) ∧ Chg w w' []) : Ent where
  f := f
  fn := g1 R
  ok := fun us v hv hg => by
    unfold g1 at hv
    split at hv
    · rename_i a
      injection hv with hv
      subst hv
      exact h a (in64_of_good (good1_int (hg (.int .i64 a) (by simp))))
    · cases hv
end Go.Proofs.YtkfkoobdmnndcaaGreat.Xi
