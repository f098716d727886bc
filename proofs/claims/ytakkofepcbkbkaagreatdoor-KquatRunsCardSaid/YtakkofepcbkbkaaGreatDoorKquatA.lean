/- KquatRuns: the walk. -/
import Derived.Test.YtakkofepcbkbkaaGreatDoorKQ17
import Derived.Test.YtakkofepcbkbkaaGreatDoorKQ19
import Derived.Test.YtakkofepcbkbkaaGreatDoorKquatE
import Derived.Test.YtakkofepcbkbkaaGreatDoorKQ20
namespace Go.Proofs.YtakkofepcbkbkaaGreatDoor
open Go Go.RowKit Go.Deep Go.Maps Go.Proofs.YtakkofepcbkbkaaGreatDoor.Ab Go.Proofs.YtakkofepcbkbkaaGreatDoor.Xi
set_option linter.unusedVariables false
attribute [local go_sem] Oper.semAt_some
def vKq1 (p0 p1 p2 p3 q0 q1 q2 q3 : Wd) (P Q : Nat) (γ : Gh) : Nat → Value
 | 0 => γ 0
 | 1 => .agg #[.int .i32 p0.v, .int .i32 p1.v, .int .i32 p2.v, .int .i32 p3.v]
 | 2 => .agg #[.int .i32 q0.v, .int .i32 q1.v, .int .i32 q2.v, .int .i32 q3.v]
 | 3 => γ 3
 | 4 => γ 4
 | 5 => γ 4
 | 6 => exT (γ 4) 0
 | 7 => exT (γ 4) 1
 | 8 => exT (γ 4) 2
 | 9 => exT (γ 4) 0
 | 10 => exT (γ 4) 1
 | 11 => exT (γ 4) 2
 | _ => undef
def chKq1 : Nat → List Nat
 | 0 => [0]
 | 1 => [3]
 | 2 => [4]
 | _ => []
def obKq1 (p0 p1 p2 p3 q0 q1 q2 q3 : Wd) (P Q : Nat) : Nat → ObjD
 | 0 => FactO 0 (fun v w => ImgAt w v ((wordsOf codeQuat 241).map fun w : Nat => (w : Int)) dataQuat secQuat [0, 1, 2, 3, 4, 5, 6, 7] outsQuat)
 | 1 => FactO 3 (fun v w => Sl w v (i32s [p0.v, p1.v, p2.v, p3.v, q0.v, q1.v, q2.v, q3.v]))
 | 2 => FactO 4 (fun v w => ∃ u m, v = .tuple #[u, m, .bool true] ∧ w.ownsRow 0 21 1 u 8 (i32s [(timesW p0 p1 p2 p3 q0 q1 q2 q3).a.v, (timesW p0 p1 p2 p3 q0 q1 q2 q3).b.v, (timesW p0 p1 p2 p3 q0 q1 q2 q3).c.v, (timesW p0 p1 p2 p3 q0 q1 q2 q3).d.v, (unitW p0 p1 p2 p3).a.v, (unitW p0 p1 p2 p3).b.v, (unitW p0 p1 p2 p3).c.v, (unitW p0 p1 p2 p3).d.v]) ∧ w.ownsRow 0 83 3 m 346 (markCells (marksQuat.map mkI)))
 | _ => fun _ _ _ _ => False
theorem stKq1 (p0 p1 p2 p3 q0 q1 q2 q3 : Wd) (P Q : Nat) : ∀ j, j < 3 → Stab0 (obKq1 p0 p1 p2 p3 q0 q1 q2 q3 P Q j) := fun j hj => by
 match j, hj with
 | 0, _ => exact (show Stab0 (FactO 0 (fun v w => ImgAt w v ((wordsOf codeQuat 241).map fun w : Nat => (w : Int)) dataQuat secQuat [0, 1, 2, 3, 4, 5, 6, 7] outsQuat)) from FactO.stab0 fun v w w' h hc => h.keep hc)
 | 1, _ => exact (show Stab0 (FactO 3 (fun v w => Sl w v (i32s [p0.v, p1.v, p2.v, p3.v, q0.v, q1.v, q2.v, q3.v]))) from FactO.stab0 fun v w w' h hc => h.keep hc)
 | 2, _ => exact (show Stab0 (FactO 4 (fun v w => ∃ u m, v = .tuple #[u, m, .bool true] ∧ w.ownsRow 0 21 1 u 8 (i32s [(timesW p0 p1 p2 p3 q0 q1 q2 q3).a.v, (timesW p0 p1 p2 p3 q0 q1 q2 q3).b.v, (timesW p0 p1 p2 p3 q0 q1 q2 q3).c.v, (timesW p0 p1 p2 p3 q0 q1 q2 q3).d.v, (unitW p0 p1 p2 p3).a.v, (unitW p0 p1 p2 p3).b.v, (unitW p0 p1 p2 p3).c.v, (unitW p0 p1 p2 p3).d.v]) ∧ w.ownsRow 0 83 3 m 346 (markCells (marksQuat.map mkI)))) from FactO.stab0 fun v w w' h hc => by obtain ⟨u, m, h1, h2, h3⟩ := h; exact ⟨u, m, h1, own_chgD h2 hc (by simp), own_chgD h3 hc (by simp)⟩)
theorem agKq1_0 (p0 p1 p2 p3 q0 q1 q2 q3 : Wd) (P Q : Nat) (γ : Gh) (v : Value) : ∀ j, j ∉ ([0] : List Nat) → vKq1 p0 p1 p2 p3 q0 q1 q2 q3 P Q (upd γ 0 v) j = vKq1 p0 p1 p2 p3 q0 q1 q2 q3 P Q γ j := fun j hj => by
 match j, hj with
 | 0, hj => exact absurd (by decide) hj
 | 1, _ => rfl
 | 2, _ => rfl
 | 3, _ => rfl
 | 4, _ => rfl
 | 5, _ => rfl
 | 6, _ => rfl
 | 7, _ => rfl
 | 8, _ => rfl
 | 9, _ => rfl
 | 10, _ => rfl
 | 11, _ => rfl
 | _ + 12, _ => rfl
theorem agKq1_3 (p0 p1 p2 p3 q0 q1 q2 q3 : Wd) (P Q : Nat) (γ : Gh) (v : Value) : ∀ j, j ∉ ([3] : List Nat) → vKq1 p0 p1 p2 p3 q0 q1 q2 q3 P Q (upd γ 3 v) j = vKq1 p0 p1 p2 p3 q0 q1 q2 q3 P Q γ j := fun j hj => by
 match j, hj with
 | 0, _ => rfl
 | 1, _ => rfl
 | 2, _ => rfl
 | 3, hj => exact absurd (by decide) hj
 | 4, _ => rfl
 | 5, _ => rfl
 | 6, _ => rfl
 | 7, _ => rfl
 | 8, _ => rfl
 | 9, _ => rfl
 | 10, _ => rfl
 | 11, _ => rfl
 | _ + 12, _ => rfl
theorem agKq1_4 (p0 p1 p2 p3 q0 q1 q2 q3 : Wd) (P Q : Nat) (γ : Gh) (v : Value) : ∀ j, j ∉ ([4, 5, 6, 7, 8, 9, 10, 11] : List Nat) → vKq1 p0 p1 p2 p3 q0 q1 q2 q3 P Q (upd γ 4 v) j = vKq1 p0 p1 p2 p3 q0 q1 q2 q3 P Q γ j := fun j hj => by
 match j, hj with
 | 0, _ => rfl
 | 1, _ => rfl
 | 2, _ => rfl
 | 3, _ => rfl
 | 4, hj => exact absurd (by decide) hj
 | 5, hj => exact absurd (by decide) hj
 | 6, hj => exact absurd (by decide) hj
 | 7, hj => exact absurd (by decide) hj
 | 8, hj => exact absurd (by decide) hj
 | 9, hj => exact absurd (by decide) hj
 | 10, hj => exact absurd (by decide) hj
 | 11, hj => exact absurd (by decide) hj
 | _ + 12, _ => rfl
theorem putsKq1 (v : Nat → Value) (t0 t1 t2 t3 t4 t5 t6 t7 t8 t9 t10 t11 t12 t13 t14 t15 t16 t17 t18 t19 t20 t21 t22 t23 t24 t25 t26 t27 t28 t29 t30 t31 t32 t33 t34 t35 t36 t37 t38 t39 t40 t41 t42 t43 t44 t45 t46 t47 t48 t49 t50 t51 t52 t53 : Value) : putsD v (some 12 :: some 13 :: some 14 :: some 15 :: some 16 :: some 11 :: some 17 :: some 18 :: some 19 :: some 5 :: some 6 :: some 7 :: []) 0 (t0 :: t1 :: t2 :: t3 :: t4 :: t5 :: t6 :: t7 :: t8 :: t9 :: t10 :: t11 :: t12 :: t13 :: t14 :: t15 :: t16 :: t17 :: t18 :: t19 :: t20 :: t21 :: t22 :: t23 :: t24 :: t25 :: t26 :: t27 :: t28 :: t29 :: t30 :: t31 :: t32 :: t33 :: t34 :: t35 :: t36 :: t37 :: t38 :: t39 :: t40 :: t41 :: t42 :: t43 :: t44 :: t45 :: t46 :: t47 :: t48 :: t49 :: t50 :: t51 :: t52 :: t53 :: []) = (t0 :: t1 :: t2 :: t3 :: t4 :: v 9 :: v 10 :: v 11 :: t8 :: t9 :: t10 :: v 5 :: v 0 :: v 1 :: v 2 :: v 3 :: v 4 :: v 6 :: v 7 :: v 8 :: t20 :: t21 :: t22 :: t23 :: t24 :: t25 :: t26 :: t27 :: t28 :: t29 :: t30 :: t31 :: t32 :: t33 :: t34 :: t35 :: t36 :: t37 :: t38 :: t39 :: t40 :: t41 :: t42 :: t43 :: t44 :: t45 :: t46 :: t47 :: t48 :: t49 :: t50 :: t51 :: t52 :: t53 :: []) := by kernel_rfl
def vKq3 (p0 p1 p2 p3 q0 q1 q2 q3 : Wd) (P Q Y Z g c d : Nat) (B : Option Addr) (γ : Gh) : Nat → Value
 | 0 => .bool true
 | 1 => .bool true
 | 2 => .slice (some ⟨g, 0, none⟩) 8 c
 | 3 => .agg #[.int .i32 p0.v, .int .i32 p1.v, .int .i32 p2.v, .int .i32 p3.v]
 | 4 => .agg #[.int .i32 q0.v, .int .i32 q1.v, .int .i32 q2.v, .int .i32 q3.v]
 | 5 => .agg #[.int .i32 ((timesW p0 p1 p2 p3 q0 q1 q2 q3).a.v), .int .i32 ((timesW p0 p1 p2 p3 q0 q1 q2 q3).b.v), .int .i32 ((timesW p0 p1 p2 p3 q0 q1 q2 q3).c.v), .int .i32 ((timesW p0 p1 p2 p3 q0 q1 q2 q3).d.v)]
 | 6 => .agg #[.int .i32 p0.v, .int .i32 p1.v, .int .i32 p2.v, .int .i32 p3.v]
 | 7 => .agg #[.int .i32 ((unitW p0 p1 p2 p3).a.v), .int .i32 ((unitW p0 p1 p2 p3).b.v), .int .i32 ((unitW p0 p1 p2 p3).c.v), .int .i32 ((unitW p0 p1 p2 p3).d.v)]
 | 8 => γ 8
 | 9 => .bool true
 | 10 => .bool true
 | 11 => .bool true
 | 12 => .agg #[.int .i32 ((timesW p0 p1 p2 p3 q0 q1 q2 q3).a.v), .int .i32 ((timesW p0 p1 p2 p3 q0 q1 q2 q3).b.v), .int .i32 ((timesW p0 p1 p2 p3 q0 q1 q2 q3).c.v), .int .i32 ((timesW p0 p1 p2 p3 q0 q1 q2 q3).d.v)]
 | 13 => .agg #[.int .i32 ((unitW p0 p1 p2 p3).a.v), .int .i32 ((unitW p0 p1 p2 p3).b.v), .int .i32 ((unitW p0 p1 p2 p3).c.v), .int .i32 ((unitW p0 p1 p2 p3).d.v)]
 | 14 => γ 14
 | 15 => .slice (some ⟨g, 0, none⟩) 8 c
 | 16 => .bool true
 | 17 => .bool true
 | 18 => .bool true
 | 19 => .int .i64 (sumC marksQuat)
 | 20 => .slice B 346 d
 | 21 => .int .i64 (sumC marksQuat)
 | 22 => .bool true
 | 23 => .bool true
 | 24 => .bool true
 | 25 => .bool true
 | 26 => .bool true
 | 27 => .bool true
 | _ => undef
def chKq3 : Nat → List Nat
 | 0 => [8]
 | 1 => [14]
 | _ => []
def obKq3 (p0 p1 p2 p3 q0 q1 q2 q3 : Wd) (P Q Y Z g c d : Nat) (B : Option Addr) : Nat → ObjD
 | 0 => FactO 8 (fun v w => Sl w v (i32s [(timesW p0 p1 p2 p3 q0 q1 q2 q3).a.v, (timesW p0 p1 p2 p3 q0 q1 q2 q3).b.v, (timesW p0 p1 p2 p3 q0 q1 q2 q3).c.v, (timesW p0 p1 p2 p3 q0 q1 q2 q3).d.v, (unitW p0 p1 p2 p3).a.v, (unitW p0 p1 p2 p3).b.v, (unitW p0 p1 p2 p3).c.v, (unitW p0 p1 p2 p3).d.v]))
 | 1 => FactO 14 (fun v w => Sl w v (i32s [(timesW p0 p1 p2 p3 q0 q1 q2 q3).a.v, (timesW p0 p1 p2 p3 q0 q1 q2 q3).b.v, (timesW p0 p1 p2 p3 q0 q1 q2 q3).c.v, (timesW p0 p1 p2 p3 q0 q1 q2 q3).d.v, (unitW p0 p1 p2 p3).a.v, (unitW p0 p1 p2 p3).b.v, (unitW p0 p1 p2 p3).c.v, (unitW p0 p1 p2 p3).d.v]))
 | _ => fun _ _ _ _ => False
theorem stKq3 (p0 p1 p2 p3 q0 q1 q2 q3 : Wd) (P Q Y Z g c d : Nat) (B : Option Addr) : ∀ j, j < 2 → Stab0 (obKq3 p0 p1 p2 p3 q0 q1 q2 q3 P Q Y Z g c d B j) := fun j hj => by
 match j, hj with
 | 0, _ => exact (show Stab0 (FactO 8 (fun v w => Sl w v (i32s [(timesW p0 p1 p2 p3 q0 q1 q2 q3).a.v, (timesW p0 p1 p2 p3 q0 q1 q2 q3).b.v, (timesW p0 p1 p2 p3 q0 q1 q2 q3).c.v, (timesW p0 p1 p2 p3 q0 q1 q2 q3).d.v, (unitW p0 p1 p2 p3).a.v, (unitW p0 p1 p2 p3).b.v, (unitW p0 p1 p2 p3).c.v, (unitW p0 p1 p2 p3).d.v]))) from FactO.stab0 fun v w w' h hc => h.keep hc)
 | 1, _ => exact (show Stab0 (FactO 14 (fun v w => Sl w v (i32s [(timesW p0 p1 p2 p3 q0 q1 q2 q3).a.v, (timesW p0 p1 p2 p3 q0 q1 q2 q3).b.v, (timesW p0 p1 p2 p3 q0 q1 q2 q3).c.v, (timesW p0 p1 p2 p3 q0 q1 q2 q3).d.v, (unitW p0 p1 p2 p3).a.v, (unitW p0 p1 p2 p3).b.v, (unitW p0 p1 p2 p3).c.v, (unitW p0 p1 p2 p3).d.v]))) from FactO.stab0 fun v w w' h hc => h.keep hc)
theorem agKq3_8 (p0 p1 p2 p3 q0 q1 q2 q3 : Wd) (P Q Y Z g c d : Nat) (B : Option Addr) (γ : Gh) (v : Value) : ∀ j, j ∉ ([8] : List Nat) → vKq3 p0 p1 p2 p3 q0 q1 q2 q3 P Q Y Z g c d B (upd γ 8 v) j = vKq3 p0 p1 p2 p3 q0 q1 q2 q3 P Q Y Z g c d B γ j := fun j hj => by
 match j, hj with
 | 0, _ => rfl
 | 1, _ => rfl
 | 2, _ => rfl
 | 3, _ => rfl
 | 4, _ => rfl
 | 5, _ => rfl
 | 6, _ => rfl
 | 7, _ => rfl
 | 8, hj => exact absurd (by decide) hj
 | 9, _ => rfl
 | 10, _ => rfl
 | 11, _ => rfl
 | 12, _ => rfl
 | 13, _ => rfl
 | 14, _ => rfl
 | 15, _ => rfl
 | 16, _ => rfl
 | 17, _ => rfl
 | 18, _ => rfl
 | 19, _ => rfl
 | 20, _ => rfl
 | 21, _ => rfl
 | 22, _ => rfl
 | 23, _ => rfl
 | 24, _ => rfl
 | 25, _ => rfl
 | 26, _ => rfl
 | 27, _ => rfl
 | _ + 28, _ => rfl
theorem agKq3_14 (p0 p1 p2 p3 q0 q1 q2 q3 : Wd) (P Q Y Z g c d : Nat) (B : Option Addr) (γ : Gh) (v : Value) : ∀ j, j ∉ ([14] : List Nat) → vKq3 p0 p1 p2 p3 q0 q1 q2 q3 P Q Y Z g c d B (upd γ 14 v) j = vKq3 p0 p1 p2 p3 q0 q1 q2 q3 P Q Y Z g c d B γ j := fun j hj => by
 match j, hj with
 | 0, _ => rfl
 | 1, _ => rfl
 | 2, _ => rfl
 | 3, _ => rfl
 | 4, _ => rfl
 | 5, _ => rfl
 | 6, _ => rfl
 | 7, _ => rfl
 | 8, _ => rfl
 | 9, _ => rfl
 | 10, _ => rfl
 | 11, _ => rfl
 | 12, _ => rfl
 | 13, _ => rfl
 | 14, hj => exact absurd (by decide) hj
 | 15, _ => rfl
 | 16, _ => rfl
 | 17, _ => rfl
 | 18, _ => rfl
 | 19, _ => rfl
 | 20, _ => rfl
 | 21, _ => rfl
 | 22, _ => rfl
 | 23, _ => rfl
 | 24, _ => rfl
 | 25, _ => rfl
 | 26, _ => rfl
 | 27, _ => rfl
 | _ + 28, _ => rfl
theorem putsKq3 (v : Nat → Value) (t0 t1 t2 t3 t4 t5 t6 t7 t8 t9 t10 t11 t12 t13 t14 t15 t16 t17 t18 t19 t20 t21 t22 t23 t24 t25 t26 t27 t28 t29 t30 t31 t32 t33 t34 t35 t36 t37 t38 t39 t40 t41 t42 t43 t44 t45 t46 t47 t48 t49 t50 t51 t52 t53 : Value) : putsD v (some 27 :: some 28 :: some 29 :: some 30 :: some 31 :: some 32 :: some 33 :: some 34 :: some 35 :: some 36 :: some 37 :: some 38 :: some 39 :: some 40 :: some 41 :: some 42 :: some 43 :: some 44 :: some 45 :: some 46 :: some 47 :: some 48 :: some 49 :: some 50 :: some 51 :: some 52 :: some 53 :: some 4 :: []) 0 (t0 :: t1 :: t2 :: t3 :: t4 :: t5 :: t6 :: t7 :: t8 :: t9 :: t10 :: t11 :: t12 :: t13 :: t14 :: t15 :: t16 :: t17 :: t18 :: t19 :: t20 :: t21 :: t22 :: t23 :: t24 :: t25 :: t26 :: t27 :: t28 :: t29 :: t30 :: t31 :: t32 :: t33 :: t34 :: t35 :: t36 :: t37 :: t38 :: t39 :: t40 :: t41 :: t42 :: t43 :: t44 :: t45 :: t46 :: t47 :: t48 :: t49 :: t50 :: t51 :: t52 :: t53 :: []) = (t0 :: t1 :: t2 :: t3 :: v 27 :: t5 :: t6 :: t7 :: t8 :: t9 :: t10 :: t11 :: t12 :: t13 :: t14 :: t15 :: t16 :: t17 :: t18 :: t19 :: t20 :: t21 :: t22 :: t23 :: t24 :: t25 :: t26 :: v 0 :: v 1 :: v 2 :: v 3 :: v 4 :: v 5 :: v 6 :: v 7 :: v 8 :: v 9 :: v 10 :: v 11 :: v 12 :: v 13 :: v 14 :: v 15 :: v 16 :: v 17 :: v 18 :: v 19 :: v 20 :: v 21 :: v 22 :: v 23 :: v 24 :: v 25 :: v 26 :: []) := by kernel_rfl
set_option maxRecDepth 100000 in
theorem marks3Q : ∀ k ∈ marksQuat, k.co ≤ 3 := fun k hk => of_decide_eq_true (List.all_eq_true.1 (show (marksQuat.all fun k => decide (k.co ≤ 3)) = true by kernel_rfl) k hk)
set_option maxRecDepth 100000 in
set_option maxHeartbeats 2000000 in
theorem kquatRuns_calls {w : World} (hg : Glo w) (p0 p1 p2 p3 q0 q1 q2 q3 : Wd) : Calls Tryz.prog 6 #[.agg #[.int .i32 p0.v, .int .i32 p1.v, .int .i32 p2.v, .int .i32 p3.v], .agg #[.int .i32 q0.v, .int .i32 q1.v, .int .i32 q2.v, .int .i32 q3.v]] w fun e w' => e = .returned (.bool true) ∧ Chg w w' [] := by
 have hmix := hide (show Tryz.prog.follows .mixedOrders = true by kernel_rfl)
 have b0 := Blk.new w 44 [.int .i32 p0.v, .int .i32 p1.v, .int .i32 p2.v, .int .i32 p3.v]
 have b1 := Blk.new (w.alloc (.cells #[.int .i32 p0.v, .int .i32 p1.v, .int .i32 p2.v, .int .i32 p3.v] 44)) 44 [.int .i32 q0.v, .int .i32 q1.v, .int .i32 q2.v, .int .i32 q3.v]
 have hz1 : (w.alloc (.cells #[.int .i32 p0.v, .int .i32 p1.v, .int .i32 p2.v, .int .i32 p3.v] 44)).heap.size = w.heap.size + 1 := size_alloc _ _
 rw [hz1] at b1
 have hc0 : Chg w ((w.alloc (.cells #[.int .i32 p0.v, .int .i32 p1.v, .int .i32 p2.v, .int .i32 p3.v] 44)).alloc (.cells #[.int .i32 q0.v, .int .i32 q1.v, .int .i32 q2.v, .int .i32 q3.v] 44)) [] := ((Chg.refl w []).alloc _).alloc _
 have HPb := hide (b0.alloc (.cells #[.int .i32 q0.v, .int .i32 q1.v, .int .i32 q2.v, .int .i32 q3.v] 44))
 have HQb := hide b1
 have HCW := hide hc0
 have HG := hide hg
 clear hg b0 b1 hz1 hc0
 go_enter Tryz.func6, Tryz.ntmps6
 go_wp2_with fail
 generalize (w.alloc (.cells #[.int .i32 p0.v, .int .i32 p1.v, .int .i32 p2.v, .int .i32 p3.v] 44)).alloc (.cells #[.int .i32 q0.v, .int .i32 q1.v, .int .i32 q2.v, .int .i32 q3.v] 44) = W0 at *
 generalize hP : w.heap.size = P at *
 generalize hQ : P + 1 = Q at *
 have HG0 := hide (HG.out.chg HCW.out (by simp))
 have HZ0 := hide HG0.out.size
 go_upto_region 1 with (fail)
 refine wp_regionJ hmix.out _ _ (fun γ => vKq1 p0 p1 p2 p3 q0 q1 q2 q3 P Q γ) (fun (γ : Gh) L w' => RSW 3 (obKq1 p0 p1 p2 p3 q0 q1 q2 q3 P Q) chKq1 W0 [] γ L w') (fun _ => undef) (by kernel_rfl) [] (by kernel_rfl) (fun p hp γ => by simp at hp) (by kernel_rfl) ?step ?start ?fin ?ext
 case ext =>
  intro γ L L' w' h hw
  exact RSW.ext (fun j hj e he => h e (by
   match j, hj with
   | 0, _ => simp [chKq1] at he; rcases he with rfl <;> decide
   | 1, _ => simp [chKq1] at he; rcases he with rfl <;> decide
   | 2, _ => simp [chKq1] at he; rcases he with rfl <;> decide
   )) hw
 case step =>
  intro i o ho L av w1 γ hdn htm hW hL hpre K' Q' hK
  match i, ho with
   | 0, ho =>
    injection ho with ho; subst ho
    clear htm
    have hm : cntE L (chKq1 0) = 0 := by simp [chKq1, cntE, hL]
    have hm2 : cntE (fun e => if e = 0 then true else L e) (chKq1 0) = 1 := by simp [chKq1, cntE]
    refine call_now (f := 20) (args := #[]) ?_ (kquat_image w1 (HG0.out.chg (RSW.chg hW) (by simp))) ?_
    · go_simp
    · rintro e w2 ⟨v, rfl, hc, hi⟩
      exact ⟨_, rfl, hK (upd γ 0 (v)) w2 (agree_of hdn [0] (by kernel_rfl) hL (agKq1_0 p0 p1 p2 p3 q0 q1 q2 q3 P Q γ _)) (RSW.eff0 (stKq1 p0 p1 p2 p3 q0 q1 q2 q3 P Q) HZ0.out hW 0 0 (by decide) (by decide) hm hm2 hc (FactO.make (i := 0) (p := (fun v w => ImgAt w v ((wordsOf codeQuat 241).map fun w : Nat => (w : Int)) dataQuat secQuat [0, 1, 2, 3, 4, 5, 6, 7] outsQuat)) hi) (fun q hq hn F h => by
      match q, hq, hn with
      | 0, _, hn => exact absurd rfl hn
      | 1, _, hn => exact h
      | 2, _, hn => exact h
    ))⟩
   | 1, ho =>
    injection ho with ho; subst ho
    have b2 : av.tmps.getD 2 undef = .pointer (some ⟨P, 0, none⟩) := slB htm 2 (by kernel_rfl)
    clear htm
    have hbb := HPb.out.chg (RSW.chg hW) (by simp)
    have y0 := hbb.cell' (i := 0) rfl
    have y1 := hbb.cell' (i := 1) rfl
    have y2 := hbb.cell' (i := 2) rfl
    have y3 := hbb.cell' (i := 3) rfl
    refine val_now ?_ (hK γ w1 (fun _ _ => rfl) (RSW.same hW 1 (by decide))); go_simp; rfl
   | 2, ho =>
    injection ho with ho; subst ho
    have b3 : av.tmps.getD 3 undef = .pointer (some ⟨Q, 0, none⟩) := slB htm 3 (by kernel_rfl)
    clear htm
    have hbb := HQb.out.chg (RSW.chg hW) (by simp)
    have y0 := hbb.cell' (i := 0) rfl
    have y1 := hbb.cell' (i := 1) rfl
    have y2 := hbb.cell' (i := 2) rfl
    have y3 := hbb.cell' (i := 3) rfl
    refine val_now ?_ (hK γ w1 (fun _ _ => rfl) (RSW.same hW 2 (by decide))); go_simp; rfl
   | 3, ho =>
    injection ho with ho; subst ho
    have s1 := slA htm 13 1 (by kernel_rfl) (hpre ⟨1, .data⟩ (by simp) rfl)
    have s2 := slA htm 14 2 (by kernel_rfl) (hpre ⟨2, .data⟩ (by simp) rfl)
    simp only [vKq1] at s1 s2
    clear htm
    have hm : cntE L (chKq1 1) = 0 := by simp [chKq1, cntE, hL]
    have hm2 : cntE (fun e => if e = 3 then true else L e) (chKq1 1) = 1 := by simp [chKq1, cntE]
    refine call_now (f := 21) (args := #[.agg #[.int .i32 p0.v, .int .i32 p1.v, .int .i32 p2.v, .int .i32 p3.v], .agg #[.int .i32 q0.v, .int .i32 q1.v, .int .i32 q2.v, .int .i32 q3.v]]) ?_ (eight_calls w1 p0.v p1.v p2.v p3.v q0.v q1.v q2.v q3.v) ?_
    · go_simp
    · rintro e w2 ⟨v, rfl, hc, hs⟩
      exact ⟨_, rfl, hK (upd γ 3 (v)) w2 (agree_of hdn [3] (by kernel_rfl) hL (agKq1_3 p0 p1 p2 p3 q0 q1 q2 q3 P Q γ _)) (RSW.eff0 (stKq1 p0 p1 p2 p3 q0 q1 q2 q3 P Q) HZ0.out hW 3 1 (by decide) (by decide) hm hm2 hc (FactO.make (i := 3) (p := (fun v w => Sl w v (i32s [p0.v, p1.v, p2.v, p3.v, q0.v, q1.v, q2.v, q3.v]))) hs) (fun q hq hn F h => by
      match q, hq, hn with
      | 0, _, hn => exact h
      | 1, _, hn => exact absurd rfl hn
      | 2, _, hn => exact h
    ))⟩
   | 4, ho =>
    injection ho with ho; subst ho
    have s0 := slA htm 12 0 (by kernel_rfl) (hpre ⟨0, .data⟩ (by simp) rfl)
    have s3 := slA htm 15 3 (by kernel_rfl) (hpre ⟨3, .data⟩ (by simp) rfl)
    simp only [vKq1] at s0 s3
    clear htm
    have hm : cntE L (chKq1 2) = 0 := by simp [chKq1, cntE, hL]
    have hm2 : cntE (fun e => if e = 4 then true else L e) (chKq1 2) = 1 := by simp [chKq1, cntE]
    have c0 : L 0 = true := hpre ⟨0, .data⟩ (by simp) rfl
    obtain ⟨F_hi, h_hi, _, _⟩ := RSW.get hW 0 (by decide) (m := 1) (by simp [chKq1, cntE, c0])
    have hi := h_hi.2
    have c3 : L 3 = true := hpre ⟨3, .chain⟩ (by simp) rfl
    obtain ⟨F_hs, h_hs, _, _⟩ := RSW.get hW 1 (by decide) (m := 1) (by simp [chKq1, cntE, c3])
    have hs := h_hs.2
    refine call_now (f := 11) (args := #[γ 0, γ 3]) ?_ (lrun_calls (HG0.out.chg (RSW.chg hW) (by simp)) hi hs (wayQuat p0 p1 p2 p3 q0 q1 q2 q3)) ?_
    · go_simp
    · rintro e w2 ⟨u, m, rfl, hc, ho, hm'⟩
      rw [lenQuat] at hm'
      exact ⟨_, rfl, hK (upd γ 4 (.tuple #[u, m, .bool true])) w2 (agree_of hdn [4, 5, 6, 7, 8, 9, 10, 11] (by kernel_rfl) hL (agKq1_4 p0 p1 p2 p3 q0 q1 q2 q3 P Q γ _)) (RSW.eff0 (stKq1 p0 p1 p2 p3 q0 q1 q2 q3 P Q) HZ0.out hW 4 2 (by decide) (by decide) hm hm2 hc (FactO.make (i := 4) (p := (fun v w => ∃ u m, v = .tuple #[u, m, .bool true] ∧ w.ownsRow 0 21 1 u 8 (i32s [(timesW p0 p1 p2 p3 q0 q1 q2 q3).a.v, (timesW p0 p1 p2 p3 q0 q1 q2 q3).b.v, (timesW p0 p1 p2 p3 q0 q1 q2 q3).c.v, (timesW p0 p1 p2 p3 q0 q1 q2 q3).d.v, (unitW p0 p1 p2 p3).a.v, (unitW p0 p1 p2 p3).b.v, (unitW p0 p1 p2 p3).c.v, (unitW p0 p1 p2 p3).d.v]) ∧ w.ownsRow 0 83 3 m 346 (markCells (marksQuat.map mkI)))) ⟨u, m, rfl, own_low ho (Nat.zero_le _), own_low hm' (Nat.zero_le _)⟩) (fun q hq hn F h => by
      match q, hq, hn with
      | 0, _, hn => exact h
      | 1, _, hn => exact h
      | 2, _, hn => exact absurd rfl hn
    ))⟩
   | 5, ho =>
    injection ho with ho; subst ho
    have s4 := slA htm 16 4 (by kernel_rfl) (hpre ⟨4, .data⟩ (by simp) rfl)
    simp only [vKq1] at s4
    clear htm
    refine val_now ?_ (hK γ w1 (fun _ _ => rfl) (RSW.same hW 5 (by decide))); go_simp; rfl
   | 6, ho =>
    injection ho with ho; subst ho
    have s5 := slA htm 11 5 (by kernel_rfl) (hpre ⟨5, .data⟩ (by simp) rfl)
    simp only [vKq1] at s5
    clear htm
    have c4 : L 4 = true := hdn 5 _ rfl (hpre ⟨5, .data⟩ (by simp) rfl) ⟨4, .data⟩ (by simp) rfl
    obtain ⟨F_hf, h_hf, _, _⟩ := RSW.get hW 2 (by decide) (m := 1) (by simp [chKq1, cntE, c4])
    have hf := h_hf.2
    obtain ⟨_, _, hf, _⟩ := hf
    rw [hf] at s5
    refine val_now (v := exT (γ 4) 0) ?_ (hK γ w1 (fun _ _ => rfl) (RSW.same hW 6 (by decide))); rw [hf]; go_simp; first | done | rfl
   | 7, ho =>
    injection ho with ho; subst ho
    have s5 := slA htm 11 5 (by kernel_rfl) (hpre ⟨5, .data⟩ (by simp) rfl)
    simp only [vKq1] at s5
    clear htm
    have c4 : L 4 = true := hdn 5 _ rfl (hpre ⟨5, .data⟩ (by simp) rfl) ⟨4, .data⟩ (by simp) rfl
    obtain ⟨F_hf, h_hf, _, _⟩ := RSW.get hW 2 (by decide) (m := 1) (by simp [chKq1, cntE, c4])
    have hf := h_hf.2
    obtain ⟨_, _, hf, _⟩ := hf
    rw [hf] at s5
    refine val_now (v := exT (γ 4) 1) ?_ (hK γ w1 (fun _ _ => rfl) (RSW.same hW 7 (by decide))); rw [hf]; go_simp; first | done | rfl
   | 8, ho =>
    injection ho with ho; subst ho
    have s5 := slA htm 11 5 (by kernel_rfl) (hpre ⟨5, .data⟩ (by simp) rfl)
    simp only [vKq1] at s5
    clear htm
    have c4 : L 4 = true := hdn 5 _ rfl (hpre ⟨5, .data⟩ (by simp) rfl) ⟨4, .data⟩ (by simp) rfl
    obtain ⟨F_hf, h_hf, _, _⟩ := RSW.get hW 2 (by decide) (m := 1) (by simp [chKq1, cntE, c4])
    have hf := h_hf.2
    obtain ⟨_, _, hf, _⟩ := hf
    rw [hf] at s5
    refine val_now (v := exT (γ 4) 2) ?_ (hK γ w1 (fun _ _ => rfl) (RSW.same hW 8 (by decide))); rw [hf]; go_simp; first | done | rfl
   | 9, ho =>
    injection ho with ho; subst ho
    have s6 := slA htm 17 6 (by kernel_rfl) (hpre ⟨6, .data⟩ (by simp) rfl)
    simp only [vKq1] at s6
    clear htm
    refine val_now ?_ (hK γ w1 (fun _ _ => rfl) (RSW.same hW 9 (by decide))); go_simp; rfl
   | 10, ho =>
    injection ho with ho; subst ho
    have s7 := slA htm 18 7 (by kernel_rfl) (hpre ⟨7, .data⟩ (by simp) rfl)
    simp only [vKq1] at s7
    clear htm
    refine val_now ?_ (hK γ w1 (fun _ _ => rfl) (RSW.same hW 10 (by decide))); go_simp; rfl
   | 11, ho =>
    injection ho with ho; subst ho
    have s8 := slA htm 19 8 (by kernel_rfl) (hpre ⟨8, .data⟩ (by simp) rfl)
    simp only [vKq1] at s8
    clear htm
    refine val_now ?_ (hK γ w1 (fun _ _ => rfl) (RSW.same hW 11 (by decide))); go_simp; rfl
   | _ + 12, ho => cases ho
 case start =>
  refine RSW.start fun j hj => ?_
  match j, hj with
  | 0, _ => exact ⟨rfl, trivial⟩
  | 1, _ => exact ⟨rfl, trivial⟩
  | 2, _ => exact ⟨rfl, trivial⟩
 case fin =>
 intro γ W2 hW
 obtain ⟨_, ⟨_, u, m, hf, hu, hm⟩, _⟩ := RSW.get hW 2 (by decide) (m := 1) rfl
 have hc2 := hW.chg
 obtain ⟨A, c, rfl, hx⟩ := row_open hu
 obtain ⟨g, rfl, hgl, hgb, hcells⟩ := hx (by decide)
 obtain ⟨B, d, rfl, hx'⟩ := row_open hm
 have hg2 : Glo W2 := HG0.out.chg hc2 (by simp)
 have hd := kquat_do hg2 p0 p1 p2 p3 q0 q1 q2 q3
 have HC2 := hide (HCW.out.trans hc2 (by simp))
 have HPb2 := hide (HPb.out.chg hc2 (by simp))
 have HQb2 := hide (HQb.out.chg hc2 (by simp))
 have HU2 := hide (Sl.own hu)
 have HM2 := hide hm
 have HG2 := hide hg2
 rw [finG_puts, putsR_list, putsL_dst]
 simp only [List.map_cons, List.map_nil]
 rw [putsKq1]
 simp only [vKq1]
 rw [hf]
 simp only [exT_eq]
 clear hW hf hu hm hx hx' hcells hc2 hg2 hgl hgb
 have z0 := HPb2.out.cell' (i := 0) rfl
 have x0 := HQb2.out.cell' (i := 0) rfl
 have z1 := HPb2.out.cell' (i := 1) rfl
 have x1 := HQb2.out.cell' (i := 1) rfl
 have z2 := HPb2.out.cell' (i := 2) rfl
 have x2 := HQb2.out.cell' (i := 2) rfl
 have z3 := HPb2.out.cell' (i := 3) rfl
 have x3 := HQb2.out.cell' (i := 3) rfl
 go_wp2_with fail
 go_at_call 22
 refine hd.mono ?_
 rintro e W3 ⟨rfl, hc3⟩
 have hzz : (W3.alloc (.cells #[.int .i32 ((timesW p0 p1 p2 p3 q0 q1 q2 q3).a.v), .int .i32 ((timesW p0 p1 p2 p3 q0 q1 q2 q3).b.v), .int .i32 ((timesW p0 p1 p2 p3 q0 q1 q2 q3).c.v), .int .i32 ((timesW p0 p1 p2 p3 q0 q1 q2 q3).d.v)] 44)).heap.size = W3.heap.size + 1 := size_alloc _ _
 have bY' := (Blk.new W3 44 [.int .i32 ((timesW p0 p1 p2 p3 q0 q1 q2 q3).a.v), .int .i32 ((timesW p0 p1 p2 p3 q0 q1 q2 q3).b.v), .int .i32 ((timesW p0 p1 p2 p3 q0 q1 q2 q3).c.v), .int .i32 ((timesW p0 p1 p2 p3 q0 q1 q2 q3).d.v)]).alloc (.cells #[.int .i32 ((unitW p0 p1 p2 p3).a.v), .int .i32 ((unitW p0 p1 p2 p3).b.v), .int .i32 ((unitW p0 p1 p2 p3).c.v), .int .i32 ((unitW p0 p1 p2 p3).d.v)] 44)
 have bZ' := Blk.new (W3.alloc (.cells #[.int .i32 ((timesW p0 p1 p2 p3 q0 q1 q2 q3).a.v), .int .i32 ((timesW p0 p1 p2 p3 q0 q1 q2 q3).b.v), .int .i32 ((timesW p0 p1 p2 p3 q0 q1 q2 q3).c.v), .int .i32 ((timesW p0 p1 p2 p3 q0 q1 q2 q3).d.v)] 44)) 44 [.int .i32 ((unitW p0 p1 p2 p3).a.v), .int .i32 ((unitW p0 p1 p2 p3).b.v), .int .i32 ((unitW p0 p1 p2 p3).c.v), .int .i32 ((unitW p0 p1 p2 p3).d.v)]
 rw [hzz] at bZ'
 have cA : Chg W3 ((W3.alloc (.cells #[.int .i32 ((timesW p0 p1 p2 p3 q0 q1 q2 q3).a.v), .int .i32 ((timesW p0 p1 p2 p3 q0 q1 q2 q3).b.v), .int .i32 ((timesW p0 p1 p2 p3 q0 q1 q2 q3).c.v), .int .i32 ((timesW p0 p1 p2 p3 q0 q1 q2 q3).d.v)] 44)).alloc (.cells #[.int .i32 ((unitW p0 p1 p2 p3).a.v), .int .i32 ((unitW p0 p1 p2 p3).b.v), .int .i32 ((unitW p0 p1 p2 p3).c.v), .int .i32 ((unitW p0 p1 p2 p3).d.v)] 44)) [] := ((Chg.refl W3 []).alloc _).alloc _
 have HPb4 := hide ((HPb2.out.chg hc3 (by simp)).chg cA (by simp))
 have HQb4 := hide ((HQb2.out.chg hc3 (by simp)).chg cA (by simp))
 have HYb := hide bY'
 have HZb := hide bZ'
 have hg4 := ((HG2.out.chg hc3 (by simp)).chg cA (by simp))
 have HG4 := hide hg4
 have HZ4 := hide hg4.size
 have HC4 := hide ((HC2.out.trans hc3 (by simp)).trans cA (by simp))
 have HUS := hide ((HU2.out.keep hc3).keep cA)
 have HM4 := hide (own_chgD (own_chgD HM2.out hc3 (by simp)) cA (by simp))
 clear hzz bZ' bY' cA hg4 hd hc3
 go_upto_region 3 with (fail)
 generalize ((W3.alloc (.cells #[.int .i32 ((timesW p0 p1 p2 p3 q0 q1 q2 q3).a.v), .int .i32 ((timesW p0 p1 p2 p3 q0 q1 q2 q3).b.v), .int .i32 ((timesW p0 p1 p2 p3 q0 q1 q2 q3).c.v), .int .i32 ((timesW p0 p1 p2 p3 q0 q1 q2 q3).d.v)] 44)).alloc (.cells #[.int .i32 ((unitW p0 p1 p2 p3).a.v), .int .i32 ((unitW p0 p1 p2 p3).b.v), .int .i32 ((unitW p0 p1 p2 p3).c.v), .int .i32 ((unitW p0 p1 p2 p3).d.v)] 44)) = W4 at *
 generalize W3.heap.size = Y at *
 generalize hZ : Y + 1 = Z at *
 have HCO := hide (show ∀ w1, Chg W4 w1 [] → Calls Tryz.prog 15 #[.slice B 346 d] w1 fun e w' => e = .returned (.int .i64 (sumC marksQuat)) ∧ Chg w1 w' [] from fun w1 hW => by
  have := refcost_calls (own_chgD HM4.out hW (by simp)) marks3Q (by rw [lenQuat]; decide) (by rw [lenQuat]; decide)
  exact this)
 refine wp_regionJ hmix.out _ _ (fun γ => vKq3 p0 p1 p2 p3 q0 q1 q2 q3 P Q Y Z g c d B γ) (fun (γ : Gh) L w' => RSW 2 (obKq3 p0 p1 p2 p3 q0 q1 q2 q3 P Q Y Z g c d B) chKq3 W4 [] γ L w') (fun _ => undef) (by kernel_rfl) [(1, true), (11, true), (18, true), (24, true)] (by kernel_rfl) (fun p hp γ => by simp at hp; rcases hp with rfl | rfl | rfl | rfl <;> rfl) (by kernel_rfl) ?step ?start ?fin ?ext
 case ext =>
  intro γ L L' w' h hw
  exact RSW.ext (fun j hj e he => h e (by
   match j, hj with
   | 0, _ => simp [chKq3] at he; rcases he with rfl <;> decide
   | 1, _ => simp [chKq3] at he; rcases he with rfl <;> decide
   )) hw
 case step =>
  intro i o ho L av w1 γ hdn htm hW hL hpre K' Q' hK
  match i, ho with
   | 0, ho =>
    injection ho with ho; subst ho
    have b7 : av.tmps.getD 7 undef = .bool true := slB htm 7 (by kernel_rfl)
    clear htm
    refine val_now ?_ (hK γ w1 (fun _ _ => rfl) (RSW.same hW 0 (by decide))); go_simp; rfl
   | 1, ho =>
    injection ho with ho; subst ho
    have s0 := slA htm 27 0 (by kernel_rfl) (hpre ⟨0, .data⟩ (by simp) rfl)
    simp only [vKq3] at s0
    clear htm
    refine val_now ?_ (hK γ w1 (fun _ _ => rfl) (RSW.same hW 1 (by decide))); go_simp; rfl
   | 2, ho =>
    injection ho with ho; subst ho
    have b5 : av.tmps.getD 5 undef = .slice (some ⟨g, 0, none⟩) 8 c := slB htm 5 (by kernel_rfl)
    clear htm
    refine val_now ?_ (hK γ w1 (fun _ _ => rfl) (RSW.same hW 2 (by decide))); go_simp; rfl
   | 3, ho =>
    injection ho with ho; subst ho
    have b2 : av.tmps.getD 2 undef = .pointer (some ⟨P, 0, none⟩) := slB htm 2 (by kernel_rfl)
    clear htm
    have hbb := HPb4.out.chg (RSW.chg hW) (by simp)
    have y0 := hbb.cell' (i := 0) rfl
    have y1 := hbb.cell' (i := 1) rfl
    have y2 := hbb.cell' (i := 2) rfl
    have y3 := hbb.cell' (i := 3) rfl
    refine val_now ?_ (hK γ w1 (fun _ _ => rfl) (RSW.same hW 3 (by decide))); go_simp; rfl
   | 4, ho =>
    injection ho with ho; subst ho
    have b3 : av.tmps.getD 3 undef = .pointer (some ⟨Q, 0, none⟩) := slB htm 3 (by kernel_rfl)
    clear htm
    have hbb := HQb4.out.chg (RSW.chg hW) (by simp)
    have y0 := hbb.cell' (i := 0) rfl
    have y1 := hbb.cell' (i := 1) rfl
    have y2 := hbb.cell' (i := 2) rfl
    have y3 := hbb.cell' (i := 3) rfl
    refine val_now ?_ (hK γ w1 (fun _ _ => rfl) (RSW.same hW 4 (by decide))); go_simp; rfl
   | 5, ho =>
    injection ho with ho; subst ho
    have s3 := slA htm 30 3 (by kernel_rfl) (hpre ⟨3, .data⟩ (by simp) rfl)
    have s4 := slA htm 31 4 (by kernel_rfl) (hpre ⟨4, .data⟩ (by simp) rfl)
    simp only [vKq3] at s3 s4
    clear htm
    refine call_now (f := 24) (args := #[.agg #[.int .i32 p0.v, .int .i32 p1.v, .int .i32 p2.v, .int .i32 p3.v], .agg #[.int .i32 q0.v, .int .i32 q1.v, .int .i32 q2.v, .int .i32 q3.v]]) ?_ (Xi.refTimes p0 p1 p2 p3 q0 q1 q2 q3 w1) ?_
    · go_simp
    · rintro e w2 ⟨rfl, hc⟩
      exact ⟨_, rfl, hK γ w2 (fun _ _ => rfl) (RSW.quiet0 (stKq3 p0 p1 p2 p3 q0 q1 q2 q3 P Q Y Z g c d B) hW 5 (by decide) hc (fun j hj F h => h))⟩
   | 6, ho =>
    injection ho with ho; subst ho
    have b2 : av.tmps.getD 2 undef = .pointer (some ⟨P, 0, none⟩) := slB htm 2 (by kernel_rfl)
    clear htm
    have hbb := HPb4.out.chg (RSW.chg hW) (by simp)
    have y0 := hbb.cell' (i := 0) rfl
    have y1 := hbb.cell' (i := 1) rfl
    have y2 := hbb.cell' (i := 2) rfl
    have y3 := hbb.cell' (i := 3) rfl
    refine val_now ?_ (hK γ w1 (fun _ _ => rfl) (RSW.same hW 6 (by decide))); go_simp; rfl
   | 7, ho =>
    injection ho with ho; subst ho
    have s6 := slA htm 33 6 (by kernel_rfl) (hpre ⟨6, .data⟩ (by simp) rfl)
    simp only [vKq3] at s6
    clear htm
    refine call_now (f := 25) (args := #[.agg #[.int .i32 p0.v, .int .i32 p1.v, .int .i32 p2.v, .int .i32 p3.v]]) ?_ (Xi.refUnit p0 p1 p2 p3 w1) ?_
    · go_simp
    · rintro e w2 ⟨rfl, hc⟩
      exact ⟨_, rfl, hK γ w2 (fun _ _ => rfl) (RSW.quiet0 (stKq3 p0 p1 p2 p3 q0 q1 q2 q3 P Q Y Z g c d B) hW 7 (by decide) hc (fun j hj F h => h))⟩
   | 8, ho =>
    injection ho with ho; subst ho
    have s5 := slA htm 32 5 (by kernel_rfl) (hpre ⟨5, .data⟩ (by simp) rfl)
    have s7 := slA htm 34 7 (by kernel_rfl) (hpre ⟨7, .data⟩ (by simp) rfl)
    simp only [vKq3] at s5 s7
    clear htm
    have hm : cntE L (chKq3 0) = 0 := by simp [chKq3, cntE, hL]
    have hm2 : cntE (fun e => if e = 8 then true else L e) (chKq3 0) = 1 := by simp [chKq3, cntE]
    refine call_now (f := 21) (args := #[.agg #[.int .i32 ((timesW p0 p1 p2 p3 q0 q1 q2 q3).a.v), .int .i32 ((timesW p0 p1 p2 p3 q0 q1 q2 q3).b.v), .int .i32 ((timesW p0 p1 p2 p3 q0 q1 q2 q3).c.v), .int .i32 ((timesW p0 p1 p2 p3 q0 q1 q2 q3).d.v)], .agg #[.int .i32 ((unitW p0 p1 p2 p3).a.v), .int .i32 ((unitW p0 p1 p2 p3).b.v), .int .i32 ((unitW p0 p1 p2 p3).c.v), .int .i32 ((unitW p0 p1 p2 p3).d.v)]]) ?_ (eight_calls w1 ((timesW p0 p1 p2 p3 q0 q1 q2 q3).a.v) ((timesW p0 p1 p2 p3 q0 q1 q2 q3).b.v) ((timesW p0 p1 p2 p3 q0 q1 q2 q3).c.v) ((timesW p0 p1 p2 p3 q0 q1 q2 q3).d.v) ((unitW p0 p1 p2 p3).a.v) ((unitW p0 p1 p2 p3).b.v) ((unitW p0 p1 p2 p3).c.v) ((unitW p0 p1 p2 p3).d.v)) ?_
    · go_simp
    · rintro e w2 ⟨v, rfl, hc, hs⟩
      exact ⟨_, rfl, hK (upd γ 8 (v)) w2 (agree_of hdn [8] (by kernel_rfl) hL (agKq3_8 p0 p1 p2 p3 q0 q1 q2 q3 P Q Y Z g c d B γ _)) (RSW.eff0 (stKq3 p0 p1 p2 p3 q0 q1 q2 q3 P Q Y Z g c d B) HZ4.out hW 8 0 (by decide) (by decide) hm hm2 hc (FactO.make (i := 8) (p := (fun v w => Sl w v (i32s [(timesW p0 p1 p2 p3 q0 q1 q2 q3).a.v, (timesW p0 p1 p2 p3 q0 q1 q2 q3).b.v, (timesW p0 p1 p2 p3 q0 q1 q2 q3).c.v, (timesW p0 p1 p2 p3 q0 q1 q2 q3).d.v, (unitW p0 p1 p2 p3).a.v, (unitW p0 p1 p2 p3).b.v, (unitW p0 p1 p2 p3).c.v, (unitW p0 p1 p2 p3).d.v]))) hs) (fun q hq hn F h => by
      match q, hq, hn with
      | 0, _, hn => exact absurd rfl hn
      | 1, _, hn => exact h
    ))⟩
   | 9, ho =>
    injection ho with ho; subst ho
    have s2 := slA htm 29 2 (by kernel_rfl) (hpre ⟨2, .data⟩ (by simp) rfl)
    have s8 := slA htm 35 8 (by kernel_rfl) (hpre ⟨8, .data⟩ (by simp) rfl)
    simp only [vKq3] at s2 s8
    clear htm
    have c8 : L 8 = true := hpre ⟨8, .chain⟩ (by simp) rfl
    obtain ⟨F_hs, h_hs, _, _⟩ := RSW.get hW 0 (by decide) (m := 1) (by simp [chKq3, cntE, c8])
    have hs := h_hs.2
    refine call_now (f := 23) (args := #[.slice (some ⟨g, 0, none⟩) 8 c, γ 8]) ?_ (refsame15_calls (HUS.out.keep (RSW.chg hW)) hs (by simp)) ?_
    · go_simp
    · rintro e w2 ⟨rfl, hc⟩
      exact ⟨_, rfl, hK γ w2 (fun _ _ => rfl) (RSW.quiet0 (stKq3 p0 p1 p2 p3 q0 q1 q2 q3 P Q Y Z g c d B) hW 9 (by decide) hc (fun j hj F h => h))⟩
   | 10, ho =>
    injection ho with ho; subst ho
    have s1 := slA htm 28 1 (by kernel_rfl) (hpre ⟨1, .data⟩ (by simp) rfl)
    have s9 := slA htm 36 9 (by kernel_rfl) (hpre ⟨9, .data⟩ (by simp) rfl)
    simp only [vKq3] at s1 s9
    clear htm
    refine val_now ?_ (hK γ w1 (fun _ _ => rfl) (RSW.same hW 10 (by decide))); go_simp; rfl
   | 11, ho =>
    injection ho with ho; subst ho
    have s10 := slA htm 37 10 (by kernel_rfl) (hpre ⟨10, .data⟩ (by simp) rfl)
    simp only [vKq3] at s10
    clear htm
    refine val_now ?_ (hK γ w1 (fun _ _ => rfl) (RSW.same hW 11 (by decide))); go_simp; rfl
   | 12, ho =>
    injection ho with ho; subst ho
    have b8 : av.tmps.getD 8 undef = .pointer (some ⟨Y, 0, none⟩) := slB htm 8 (by kernel_rfl)
    clear htm
    have hbb := HYb.out.chg (RSW.chg hW) (by simp)
    have y0 := hbb.cell' (i := 0) rfl
    have y1 := hbb.cell' (i := 1) rfl
    have y2 := hbb.cell' (i := 2) rfl
    have y3 := hbb.cell' (i := 3) rfl
    refine val_now ?_ (hK γ w1 (fun _ _ => rfl) (RSW.same hW 12 (by decide))); go_simp; rfl
   | 13, ho =>
    injection ho with ho; subst ho
    have b9 : av.tmps.getD 9 undef = .pointer (some ⟨Z, 0, none⟩) := slB htm 9 (by kernel_rfl)
    clear htm
    have hbb := HZb.out.chg (RSW.chg hW) (by simp)
    have y0 := hbb.cell' (i := 0) rfl
    have y1 := hbb.cell' (i := 1) rfl
    have y2 := hbb.cell' (i := 2) rfl
    have y3 := hbb.cell' (i := 3) rfl
    refine val_now ?_ (hK γ w1 (fun _ _ => rfl) (RSW.same hW 13 (by decide))); go_simp; rfl
   | 14, ho =>
    injection ho with ho; subst ho
    have s12 := slA htm 39 12 (by kernel_rfl) (hpre ⟨12, .data⟩ (by simp) rfl)
    have s13 := slA htm 40 13 (by kernel_rfl) (hpre ⟨13, .data⟩ (by simp) rfl)
    simp only [vKq3] at s12 s13
    clear htm
    have hm : cntE L (chKq3 1) = 0 := by simp [chKq3, cntE, hL]
    have hm2 : cntE (fun e => if e = 14 then true else L e) (chKq3 1) = 1 := by simp [chKq3, cntE]
    refine call_now (f := 21) (args := #[.agg #[.int .i32 ((timesW p0 p1 p2 p3 q0 q1 q2 q3).a.v), .int .i32 ((timesW p0 p1 p2 p3 q0 q1 q2 q3).b.v), .int .i32 ((timesW p0 p1 p2 p3 q0 q1 q2 q3).c.v), .int .i32 ((timesW p0 p1 p2 p3 q0 q1 q2 q3).d.v)], .agg #[.int .i32 ((unitW p0 p1 p2 p3).a.v), .int .i32 ((unitW p0 p1 p2 p3).b.v), .int .i32 ((unitW p0 p1 p2 p3).c.v), .int .i32 ((unitW p0 p1 p2 p3).d.v)]]) ?_ (eight_calls w1 ((timesW p0 p1 p2 p3 q0 q1 q2 q3).a.v) ((timesW p0 p1 p2 p3 q0 q1 q2 q3).b.v) ((timesW p0 p1 p2 p3 q0 q1 q2 q3).c.v) ((timesW p0 p1 p2 p3 q0 q1 q2 q3).d.v) ((unitW p0 p1 p2 p3).a.v) ((unitW p0 p1 p2 p3).b.v) ((unitW p0 p1 p2 p3).c.v) ((unitW p0 p1 p2 p3).d.v)) ?_
    · go_simp
    · rintro e w2 ⟨v, rfl, hc, hs⟩
      exact ⟨_, rfl, hK (upd γ 14 (v)) w2 (agree_of hdn [14] (by kernel_rfl) hL (agKq3_14 p0 p1 p2 p3 q0 q1 q2 q3 P Q Y Z g c d B γ _)) (RSW.eff0 (stKq3 p0 p1 p2 p3 q0 q1 q2 q3 P Q Y Z g c d B) HZ4.out hW 14 1 (by decide) (by decide) hm hm2 hc (FactO.make (i := 14) (p := (fun v w => Sl w v (i32s [(timesW p0 p1 p2 p3 q0 q1 q2 q3).a.v, (timesW p0 p1 p2 p3 q0 q1 q2 q3).b.v, (timesW p0 p1 p2 p3 q0 q1 q2 q3).c.v, (timesW p0 p1 p2 p3 q0 q1 q2 q3).d.v, (unitW p0 p1 p2 p3).a.v, (unitW p0 p1 p2 p3).b.v, (unitW p0 p1 p2 p3).c.v, (unitW p0 p1 p2 p3).d.v]))) hs) (fun q hq hn F h => by
      match q, hq, hn with
      | 0, _, hn => exact h
      | 1, _, hn => exact absurd rfl hn
    ))⟩
   | 15, ho =>
    injection ho with ho; subst ho
    have b5 : av.tmps.getD 5 undef = .slice (some ⟨g, 0, none⟩) 8 c := slB htm 5 (by kernel_rfl)
    clear htm
    refine val_now ?_ (hK γ w1 (fun _ _ => rfl) (RSW.same hW 15 (by decide))); go_simp; rfl
   | 16, ho =>
    injection ho with ho; subst ho
    have s14 := slA htm 41 14 (by kernel_rfl) (hpre ⟨14, .data⟩ (by simp) rfl)
    have s15 := slA htm 42 15 (by kernel_rfl) (hpre ⟨15, .data⟩ (by simp) rfl)
    simp only [vKq3] at s14 s15
    clear htm
    have c14 : L 14 = true := hpre ⟨14, .chain⟩ (by simp) rfl
    obtain ⟨F_hs, h_hs, _, _⟩ := RSW.get hW 1 (by decide) (m := 1) (by simp [chKq3, cntE, c14])
    have hs := h_hs.2
    refine call_now (f := 23) (args := #[γ 14, .slice (some ⟨g, 0, none⟩) 8 c]) ?_ (refsame15_calls hs (HUS.out.keep (RSW.chg hW)) (by simp)) ?_
    · go_simp
    · rintro e w2 ⟨rfl, hc⟩
      exact ⟨_, rfl, hK γ w2 (fun _ _ => rfl) (RSW.quiet0 (stKq3 p0 p1 p2 p3 q0 q1 q2 q3 P Q Y Z g c d B) hW 16 (by decide) hc (fun j hj F h => h))⟩
   | 17, ho =>
    injection ho with ho; subst ho
    have s11 := slA htm 38 11 (by kernel_rfl) (hpre ⟨11, .data⟩ (by simp) rfl)
    have s16 := slA htm 43 16 (by kernel_rfl) (hpre ⟨16, .data⟩ (by simp) rfl)
    simp only [vKq3] at s11 s16
    clear htm
    refine val_now ?_ (hK γ w1 (fun _ _ => rfl) (RSW.same hW 17 (by decide))); go_simp; rfl
   | 18, ho =>
    injection ho with ho; subst ho
    have s17 := slA htm 44 17 (by kernel_rfl) (hpre ⟨17, .data⟩ (by simp) rfl)
    simp only [vKq3] at s17
    clear htm
    refine val_now ?_ (hK γ w1 (fun _ _ => rfl) (RSW.same hW 18 (by decide))); go_simp; rfl
   | 19, ho =>
    injection ho with ho; subst ho
    have b10 : av.tmps.getD 10 undef = .int .i64 (sumC marksQuat) := slB htm 10 (by kernel_rfl)
    clear htm
    refine val_now ?_ (hK γ w1 (fun _ _ => rfl) (RSW.same hW 19 (by decide))); go_simp; rfl
   | 20, ho =>
    injection ho with ho; subst ho
    have b6 : av.tmps.getD 6 undef = .slice B 346 d := slB htm 6 (by kernel_rfl)
    clear htm
    refine val_now ?_ (hK γ w1 (fun _ _ => rfl) (RSW.same hW 20 (by decide))); go_simp; rfl
   | 21, ho =>
    injection ho with ho; subst ho
    have s20 := slA htm 47 20 (by kernel_rfl) (hpre ⟨20, .data⟩ (by simp) rfl)
    simp only [vKq3] at s20
    clear htm
    refine call_now (f := 15) (args := #[.slice B 346 d]) ?_ (HCO.out w1 (RSW.chg hW)) ?_
    · go_simp
    · rintro e w2 ⟨rfl, hc⟩
      exact ⟨_, rfl, hK γ w2 (fun _ _ => rfl) (RSW.quiet0 (stKq3 p0 p1 p2 p3 q0 q1 q2 q3 P Q Y Z g c d B) hW 21 (by decide) hc (fun j hj F h => h))⟩
   | 22, ho =>
    injection ho with ho; subst ho
    have s19 := slA htm 46 19 (by kernel_rfl) (hpre ⟨19, .data⟩ (by simp) rfl)
    have s21 := slA htm 48 21 (by kernel_rfl) (hpre ⟨21, .data⟩ (by simp) rfl)
    simp only [vKq3] at s19 s21
    clear htm
    refine val_now ?_ (hK γ w1 (fun _ _ => rfl) (RSW.same hW 22 (by decide))); go_simp; rfl
   | 23, ho =>
    injection ho with ho; subst ho
    have s18 := slA htm 45 18 (by kernel_rfl) (hpre ⟨18, .data⟩ (by simp) rfl)
    have s22 := slA htm 49 22 (by kernel_rfl) (hpre ⟨22, .data⟩ (by simp) rfl)
    simp only [vKq3] at s18 s22
    clear htm
    refine val_now ?_ (hK γ w1 (fun _ _ => rfl) (RSW.same hW 23 (by decide))); go_simp; rfl
   | 24, ho =>
    injection ho with ho; subst ho
    have s23 := slA htm 50 23 (by kernel_rfl) (hpre ⟨23, .data⟩ (by simp) rfl)
    simp only [vKq3] at s23
    clear htm
    refine val_now ?_ (hK γ w1 (fun _ _ => rfl) (RSW.same hW 24 (by decide))); go_simp; rfl
   | 25, ho =>
    injection ho with ho; subst ho
    clear htm
    refine call_now (f := 26) (args := #[]) ?_ (awake29_calls (HG4.out.chg (RSW.chg hW) (by simp))) ?_
    · go_simp
    · rintro e w2 ⟨rfl, hc⟩
      exact ⟨_, rfl, hK γ w2 (fun _ _ => rfl) (RSW.quiet0 (stKq3 p0 p1 p2 p3 q0 q1 q2 q3 P Q Y Z g c d B) hW 25 (by decide) hc (fun j hj F h => h))⟩
   | 26, ho =>
    injection ho with ho; subst ho
    have s24 := slA htm 51 24 (by kernel_rfl) (hpre ⟨24, .data⟩ (by simp) rfl)
    have s25 := slA htm 52 25 (by kernel_rfl) (hpre ⟨25, .data⟩ (by simp) rfl)
    simp only [vKq3] at s24 s25
    clear htm
    refine val_now ?_ (hK γ w1 (fun _ _ => rfl) (RSW.same hW 26 (by decide))); go_simp; rfl
   | 27, ho =>
    injection ho with ho; subst ho
    have s26 := slA htm 53 26 (by kernel_rfl) (hpre ⟨26, .data⟩ (by simp) rfl)
    simp only [vKq3] at s26
    clear htm
    refine val_now ?_ (hK γ w1 (fun _ _ => rfl) (RSW.same hW 27 (by decide))); go_simp; rfl
   | _ + 28, ho => cases ho
 case start =>
  refine RSW.start fun j hj => ?_
  match j, hj with
  | 0, _ => exact ⟨rfl, trivial⟩
  | 1, _ => exact ⟨rfl, trivial⟩
 case fin =>
 intro γ W5 hW
 have hc5 := hW.chg
 rw [finG_puts, putsR_list, putsL_dst]
 simp only [List.map_cons, List.map_nil]
 rw [putsKq3]
 simp only [vKq3]
 go_wp2
 go_ret
 exact ⟨rfl, HC4.out.trans hc5 (by simp)⟩
end Go.Proofs.YtakkofepcbkbkaaGreatDoor
