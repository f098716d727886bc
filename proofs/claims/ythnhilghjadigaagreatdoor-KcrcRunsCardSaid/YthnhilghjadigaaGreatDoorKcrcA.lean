/- KcrcRuns: the walk. -/
import Derived.Test.YthnhilghjadigaaGreatDoorKC17
import Derived.Test.YthnhilghjadigaaGreatDoorKdoCrc
import Derived.Test.YthnhilghjadigaaGreatDoorKC18
import Derived.Test.YthnhilghjadigaaGreatDoorRso
namespace Go.Proofs.YthnhilghjadigaaGreatDoor
open Go Go.RowKit Go.Deep Go.Maps Go.Proofs.YthnhilghjadigaaGreatDoor.Ab Go.Proofs.YthnhilghjadigaaGreatDoor.Xi
set_option linter.unusedVariables false
attribute [local go_sem] Oper.semAt_some
theorem exT_eq (vs : Array Value) (k : Nat) : exT (.tuple vs) k = vs.getD k undef := rfl
def vKc7 (l : List Nat) (s : Int) (K : List Mk) (A a1 a2 a3 a4 a5 : Option Addr) (n c n1 ca1 n2 ca2 n3 ca3 n4 ca4 n5 ca5 P : Nat) (γ : Gh) : Nat → Value
 | 0 => .agg #[.slice a1 n1 ca1, .slice a2 n2 ca2, .slice a3 n3 ca3, .slice a4 n4 ca4, .slice a5 n5 ca5]
 | 1 => .slice A n c
 | 2 => γ 2
 | 3 => γ 3
 | 4 => γ 3
 | 5 => exT (γ 3) 0
 | 6 => exT (γ 3) 1
 | 7 => exT (γ 3) 2
 | 8 => exT (γ 3) 0
 | 9 => exT (γ 3) 1
 | 10 => exT (γ 3) 2
 | _ => undef
def chKc7 : Nat → List Nat
 | 0 => [2]
 | 1 => [3]
 | _ => []
def obKc7 (l : List Nat) (s : Int) (K : List Mk) (A a1 a2 a3 a4 a5 : Option Addr) (n c n1 ca1 n2 ca2 n3 ca3 n4 ca4 n5 ca5 P : Nat) : Nat → ObjD
 | 0 => FactO 2 (fun v w => Sl w v (i32s (l.map fun n : Nat => (n : Int))))
 | 1 => FactO 3 (fun v w => ∃ u m, v = .tuple #[u, m, .bool true] ∧ w.ownsRow 0 21 1 u 1 (i32s [s]) ∧ w.ownsRow 0 74 3 m K.length (markCells (K.map mkI)))
 | _ => fun _ _ _ _ => False
theorem stKc7 (l : List Nat) (s : Int) (K : List Mk) (A a1 a2 a3 a4 a5 : Option Addr) (n c n1 ca1 n2 ca2 n3 ca3 n4 ca4 n5 ca5 P : Nat) : ∀ j, j < 2 → Stab0 (obKc7 l s K A a1 a2 a3 a4 a5 n c n1 ca1 n2 ca2 n3 ca3 n4 ca4 n5 ca5 P j) := fun j hj => by
 match j, hj with
 | 0, _ => exact (show Stab0 (FactO 2 (fun v w => Sl w v (i32s (l.map fun n : Nat => (n : Int))))) from FactO.stab0 fun v w w' h hc => h.keep hc)
 | 1, _ => exact (show Stab0 (FactO 3 (fun v w => ∃ u m, v = .tuple #[u, m, .bool true] ∧ w.ownsRow 0 21 1 u 1 (i32s [s]) ∧ w.ownsRow 0 74 3 m K.length (markCells (K.map mkI)))) from FactO.stab0 fun v w w' h hc => by obtain ⟨u, m, h1, h2, h3⟩ := h; exact ⟨u, m, h1, own_chgD h2 hc (by simp), own_chgD h3 hc (by simp)⟩)
theorem agKc7_2 (l : List Nat) (s : Int) (K : List Mk) (A a1 a2 a3 a4 a5 : Option Addr) (n c n1 ca1 n2 ca2 n3 ca3 n4 ca4 n5 ca5 P : Nat) (γ : Gh) (v : Value) : ∀ j, j ∉ ([2] : List Nat) → vKc7 l s K A a1 a2 a3 a4 a5 n c n1 ca1 n2 ca2 n3 ca3 n4 ca4 n5 ca5 P (upd γ 2 v) j = vKc7 l s K A a1 a2 a3 a4 a5 n c n1 ca1 n2 ca2 n3 ca3 n4 ca4 n5 ca5 P γ j := fun j hj => by
 match j, hj with
 | 0, _ => rfl
 | 1, _ => rfl
 | 2, hj => exact absurd (by decide) hj
 | 3, _ => rfl
 | 4, _ => rfl
 | 5, _ => rfl
 | 6, _ => rfl
 | 7, _ => rfl
 | 8, _ => rfl
 | 9, _ => rfl
 | 10, _ => rfl
 | _ + 11, _ => rfl
theorem agKc7_3 (l : List Nat) (s : Int) (K : List Mk) (A a1 a2 a3 a4 a5 : Option Addr) (n c n1 ca1 n2 ca2 n3 ca3 n4 ca4 n5 ca5 P : Nat) (γ : Gh) (v : Value) : ∀ j, j ∉ ([3, 4, 5, 6, 7, 8, 9, 10] : List Nat) → vKc7 l s K A a1 a2 a3 a4 a5 n c n1 ca1 n2 ca2 n3 ca3 n4 ca4 n5 ca5 P (upd γ 3 v) j = vKc7 l s K A a1 a2 a3 a4 a5 n c n1 ca1 n2 ca2 n3 ca3 n4 ca4 n5 ca5 P γ j := fun j hj => by
 match j, hj with
 | 0, _ => rfl
 | 1, _ => rfl
 | 2, _ => rfl
 | 3, hj => exact absurd (by decide) hj
 | 4, hj => exact absurd (by decide) hj
 | 5, hj => exact absurd (by decide) hj
 | 6, hj => exact absurd (by decide) hj
 | 7, hj => exact absurd (by decide) hj
 | 8, hj => exact absurd (by decide) hj
 | 9, hj => exact absurd (by decide) hj
 | 10, hj => exact absurd (by decide) hj
 | _ + 11, _ => rfl
theorem putsKc7 (v : Nat → Value) (t0 t1 t2 t3 t4 t5 t6 t7 t8 t9 t10 t11 t12 t13 t14 t15 t16 t17 t18 t19 t20 t21 t22 t23 t24 t25 t26 t27 t28 t29 t30 t31 t32 t33 t34 t35 t36 t37 t38 t39 t40 t41 t42 t43 t44 t45 t46 t47 t48 t49 t50 t51 t52 t53 t54 t55 t56 t57 t58 t59 t60 t61 t62 t63 t64 t65 t66 t67 t68 t69 t70 t71 t72 t73 t74 t75 t76 t77 t78 t79 t80 t81 t82 t83 t84 t85 t86 t87 t88 t89 t90 t91 t92 t93 t94 t95 t96 t97 t98 t99 t100 t101 t102 : Value) : putsD v (some 58 :: some 59 :: some 60 :: some 61 :: some 57 :: some 62 :: some 63 :: some 64 :: some 8 :: some 9 :: some 10 :: []) 0 (t0 :: t1 :: t2 :: t3 :: t4 :: t5 :: t6 :: t7 :: t8 :: t9 :: t10 :: t11 :: t12 :: t13 :: t14 :: t15 :: t16 :: t17 :: t18 :: t19 :: t20 :: t21 :: t22 :: t23 :: t24 :: t25 :: t26 :: t27 :: t28 :: t29 :: t30 :: t31 :: t32 :: t33 :: t34 :: t35 :: t36 :: t37 :: t38 :: t39 :: t40 :: t41 :: t42 :: t43 :: t44 :: t45 :: t46 :: t47 :: t48 :: t49 :: t50 :: t51 :: t52 :: t53 :: t54 :: t55 :: t56 :: t57 :: t58 :: t59 :: t60 :: t61 :: t62 :: t63 :: t64 :: t65 :: t66 :: t67 :: t68 :: t69 :: t70 :: t71 :: t72 :: t73 :: t74 :: t75 :: t76 :: t77 :: t78 :: t79 :: t80 :: t81 :: t82 :: t83 :: t84 :: t85 :: t86 :: t87 :: t88 :: t89 :: t90 :: t91 :: t92 :: t93 :: t94 :: t95 :: t96 :: t97 :: t98 :: t99 :: t100 :: t101 :: t102 :: []) = (t0 :: t1 :: t2 :: t3 :: t4 :: t5 :: t6 :: t7 :: v 8 :: v 9 :: v 10 :: t11 :: t12 :: t13 :: t14 :: t15 :: t16 :: t17 :: t18 :: t19 :: t20 :: t21 :: t22 :: t23 :: t24 :: t25 :: t26 :: t27 :: t28 :: t29 :: t30 :: t31 :: t32 :: t33 :: t34 :: t35 :: t36 :: t37 :: t38 :: t39 :: t40 :: t41 :: t42 :: t43 :: t44 :: t45 :: t46 :: t47 :: t48 :: t49 :: t50 :: t51 :: t52 :: t53 :: t54 :: t55 :: t56 :: v 4 :: v 0 :: v 1 :: v 2 :: v 3 :: v 5 :: v 6 :: v 7 :: t65 :: t66 :: t67 :: t68 :: t69 :: t70 :: t71 :: t72 :: t73 :: t74 :: t75 :: t76 :: t77 :: t78 :: t79 :: t80 :: t81 :: t82 :: t83 :: t84 :: t85 :: t86 :: t87 :: t88 :: t89 :: t90 :: t91 :: t92 :: t93 :: t94 :: t95 :: t96 :: t97 :: t98 :: t99 :: t100 :: t101 :: t102 :: []) := by kernel_rfl
def vKc8 (s k : Int) (A B : Option Addr) (n c g d m e : Nat) (γ : Gh) : Nat → Value
 | 0 => .int .i64 0
 | 1 => .bool true
 | 2 => .bool true
 | 3 => .int .i64 0
 | 4 => .bool true
 | 5 => .bool true
 | 6 => .bool true
 | 7 => .bool true
 | 8 => .bool true
 | 9 => .bool true
 | 10 => .slice (some ⟨g, 0, none⟩) 1 d
 | 11 => .int .i64 1
 | 12 => .bool true
 | 13 => .bool true
 | 14 => .bool true
 | 15 => .slice (some ⟨g, 0, none⟩) 1 d
 | 16 => .pointer (some ⟨g, 0, none⟩)
 | 17 => .int .i32 s
 | 18 => .slice A n c
 | 19 => .int .i32 s
 | 20 => .bool true
 | 21 => .bool true
 | 22 => .bool true
 | 23 => .int .i32 s
 | 24 => .slice (some ⟨g, 0, none⟩) 1 d
 | 25 => .pointer (some ⟨g, 0, none⟩)
 | 26 => .int .i32 s
 | 27 => .bool true
 | 28 => .bool true
 | 29 => .bool true
 | 30 => .int .i64 k
 | 31 => .slice B m e
 | 32 => .int .i64 k
 | 33 => .bool true
 | 34 => .bool true
 | 35 => .bool true
 | 36 => .bool true
 | 37 => .bool true
 | 38 => .bool true
 | _ => undef
def chKc8 : Nat → List Nat
 | _ => []
def obKc8 (s k : Int) (A B : Option Addr) (n c g d m e : Nat) : Nat → ObjD
 | _ => fun _ _ _ _ => False
theorem stKc8 (s k : Int) (A B : Option Addr) (n c g d m e : Nat) : ∀ j, j < 0 → Stab0 (obKc8 s k A B n c g d m e j) := fun j hj => absurd hj (by omega)
theorem putsKc8 (v : Nat → Value) (t0 t1 t2 t3 t4 t5 t6 t7 t8 t9 t10 t11 t12 t13 t14 t15 t16 t17 t18 t19 t20 t21 t22 t23 t24 t25 t26 t27 t28 t29 t30 t31 t32 t33 t34 t35 t36 t37 t38 t39 t40 t41 t42 t43 t44 t45 t46 t47 t48 t49 t50 t51 t52 t53 t54 t55 t56 t57 t58 t59 t60 t61 t62 t63 t64 t65 t66 t67 t68 t69 t70 t71 t72 t73 t74 t75 t76 t77 t78 t79 t80 t81 t82 t83 t84 t85 t86 t87 t88 t89 t90 t91 t92 t93 t94 t95 t96 t97 t98 t99 t100 t101 t102 : Value) : putsD v (some 65 :: some 66 :: some 67 :: some 68 :: some 69 :: some 70 :: some 71 :: some 72 :: some 73 :: some 74 :: some 75 :: some 76 :: some 77 :: some 78 :: some 79 :: some 80 :: some 81 :: some 82 :: some 83 :: some 84 :: some 85 :: some 86 :: some 87 :: some 88 :: some 89 :: some 90 :: some 91 :: some 92 :: some 93 :: some 94 :: some 95 :: some 96 :: some 97 :: some 98 :: some 99 :: some 100 :: some 101 :: some 102 :: some 2 :: []) 0 (t0 :: t1 :: t2 :: t3 :: t4 :: t5 :: t6 :: t7 :: t8 :: t9 :: t10 :: t11 :: t12 :: t13 :: t14 :: t15 :: t16 :: t17 :: t18 :: t19 :: t20 :: t21 :: t22 :: t23 :: t24 :: t25 :: t26 :: t27 :: t28 :: t29 :: t30 :: t31 :: t32 :: t33 :: t34 :: t35 :: t36 :: t37 :: t38 :: t39 :: t40 :: t41 :: t42 :: t43 :: t44 :: t45 :: t46 :: t47 :: t48 :: t49 :: t50 :: t51 :: t52 :: t53 :: t54 :: t55 :: t56 :: t57 :: t58 :: t59 :: t60 :: t61 :: t62 :: t63 :: t64 :: t65 :: t66 :: t67 :: t68 :: t69 :: t70 :: t71 :: t72 :: t73 :: t74 :: t75 :: t76 :: t77 :: t78 :: t79 :: t80 :: t81 :: t82 :: t83 :: t84 :: t85 :: t86 :: t87 :: t88 :: t89 :: t90 :: t91 :: t92 :: t93 :: t94 :: t95 :: t96 :: t97 :: t98 :: t99 :: t100 :: t101 :: t102 :: []) = (t0 :: t1 :: v 38 :: t3 :: t4 :: t5 :: t6 :: t7 :: t8 :: t9 :: t10 :: t11 :: t12 :: t13 :: t14 :: t15 :: t16 :: t17 :: t18 :: t19 :: t20 :: t21 :: t22 :: t23 :: t24 :: t25 :: t26 :: t27 :: t28 :: t29 :: t30 :: t31 :: t32 :: t33 :: t34 :: t35 :: t36 :: t37 :: t38 :: t39 :: t40 :: t41 :: t42 :: t43 :: t44 :: t45 :: t46 :: t47 :: t48 :: t49 :: t50 :: t51 :: t52 :: t53 :: t54 :: t55 :: t56 :: t57 :: t58 :: t59 :: t60 :: t61 :: t62 :: t63 :: t64 :: v 0 :: v 1 :: v 2 :: v 3 :: v 4 :: v 5 :: v 6 :: v 7 :: v 8 :: v 9 :: v 10 :: v 11 :: v 12 :: v 13 :: v 14 :: v 15 :: v 16 :: v 17 :: v 18 :: v 19 :: v 20 :: v 21 :: v 22 :: v 23 :: v 24 :: v 25 :: v 26 :: v 27 :: v 28 :: v 29 :: v 30 :: v 31 :: v 32 :: v 33 :: v 34 :: v 35 :: v 36 :: v 37 :: []) := by kernel_rfl
theorem kcrcNo_calls {w : World} (hg : Glo w) {v : Value} {l : List Nat} (h : Sl w v (u8c l)) (h0 : l.length ≤ 100) (hn : l.length < 1 ∨ 64 < l.length) : Calls Tryz.prog 3 #[v] w fun e w' => e = .returned (.bool true) ∧ Chg w w' [] := by
 have h' := h
 obtain ⟨A, c, rfl, hx⟩ := sl_open h
 have hi := kcrc_image_no w l.length (by omega)
 rw [u8c_length] at *
 have HS := hide h'
 have HN := hide hn
 have HG := hide hg
 have d0 : decide ((100 : Int) < (l.length : Int)) = false := decide_eq_false (by omega)
 clear h h' hx hg
 go_enter Tryz.func3, Tryz.ntmps3
 go_wp2_with fail
 go_at_call 6
 refine hi.mono ?_
 rintro e w1 ⟨rfl, hc1⟩
 have HP := hide (Blk.new w1 29 nil5)
 have hcA : Chg w (w1.alloc (.cells #[.slice none 0 0, .slice none 0 0, .slice none 0 0, .slice none 0 0, .slice none 0 0] 29)) [] := hc1.alloc _
 have HC1 := hide hcA
 have hd := kcrc_do_no (HS.out.keep hcA) HN.out
 clear hi hc1 hcA d0
 go_wp2_with fail
 go_at_call 7
 refine hd.mono ?_
 rintro e w2 ⟨rfl, hc2⟩
 have HP2 := hide (HP.out.chg hc2 (by simp))
 have HC2 := hide (HC1.out.trans hc2 (by simp))
 have y0 := HP2.out.cell' (i := 0) rfl
 have y1 := HP2.out.cell' (i := 1) rfl
 have y2 := HP2.out.cell' (i := 2) rfl
 have y3 := HP2.out.cell' (i := 3) rfl
 have y4 := HP2.out.cell' (i := 4) rfl
 clear hd hc2
 have hsm := refsame22_nil w2
 have fin : ∀ w3, Chg w2 w3 [] → Calls Tryz.prog 5 #[] w3 fun e w' => e = .returned (.bool true) ∧ Chg w3 w' [] := fun w3 h3 => awake30_calls (HG.out.chg (HC2.out.trans h3 (by simp)) (by simp))
 have HFIN := hide fin
 clear fin
 by_cases h1 : l.length < 1
 · have d1 : decide ((l.length : Int) < 1) = true := decide_eq_true (by omega)
   go_wp2_with fail
   go_at_call 8
   refine hsm.mono ?_
   rintro e w3 ⟨rfl, hc3⟩
   have HC3 := hide (HC2.out.trans hc3 (by simp))
   have haw := HFIN.out w3 hc3
   clear hsm hc3
   go_wp2_with fail
   go_at_call 5
   refine haw.mono ?_
   rintro e w4 ⟨rfl, hc4⟩
   have HC4 := hide (HC3.out.trans hc4 (by simp))
   clear haw hc4
   go_wp2
   go_ret
   exact ⟨rfl, HC4.out⟩
 · have d1 : decide ((l.length : Int) < 1) = false := decide_eq_false (by omega)
   have d2 : decide ((64 : Int) < (l.length : Int)) = true := decide_eq_true (by have := HN.out; omega)
   go_wp2_with fail
   go_at_call 8
   refine hsm.mono ?_
   rintro e w3 ⟨rfl, hc3⟩
   have HC3 := hide (HC2.out.trans hc3 (by simp))
   have haw := HFIN.out w3 hc3
   clear hsm hc3
   go_wp2_with fail
   go_at_call 5
   refine haw.mono ?_
   rintro e w4 ⟨rfl, hc4⟩
   have HC4 := hide (HC3.out.trans hc4 (by simp))
   clear haw hc4
   go_wp2
   go_ret
   exact ⟨rfl, HC4.out⟩
set_option maxRecDepth 100000 in
set_option maxHeartbeats 2000000 in
theorem kcrcYes_calls {w : World} (hg : Glo w) {v : Value} {l : List Nat} (h : Sl w v (u8c l)) (hb : ∀ x ∈ l, x < 256) (h1 : 1 ≤ l.length) (h2 : l.length ≤ 64) : Calls Tryz.prog 3 #[v] w fun e w' => e = .returned (.bool true) ∧ Chg w w' [] := by
 have hmix := hide (show Tryz.prog.follows .mixedOrders = true by kernel_rfl)
 have h' := h
 obtain ⟨A, c, rfl, hx⟩ := sl_open h
 have hi := kcrc_image w hg l.length h1 h2
 have HWY := hide (wayC l hb h1 h2)
 have hch := (okC l.length h1 h2).cheap
 rw [u8c_length] at *
 have HS := hide h'
 have HG := hide hg
 have HBB := hide hb
 have HL := hide (show 1 ≤ l.length ∧ l.length ≤ 64 from ⟨h1, h2⟩)
 have HL1 : Hid (l.length ≤ 100000) := hide (by omega)
 have HCH := hide hch
 have HDO := hide (fun (w1 : World) (hc : Chg w w1 []) => kcrc_do (hg.chg hc (by simp)) (h'.keep hc) hb h1 h2)
 have d0 : decide ((100 : Int) < (l.length : Int)) = false := decide_eq_false (by omega)
 have d1 : decide ((l.length : Int) < 1) = false := decide_eq_false (by omega)
 have d2 : decide ((64 : Int) < (l.length : Int)) = false := decide_eq_false (by omega)
 clear h h' hx hg hb h1 h2 hch
 generalize imgC l.length = im at *
 go_enter Tryz.func3, Tryz.ntmps3
 go_wp2_with fail
 go_at_call 6
 refine hi.mono ?_
 rintro e w1 ⟨vi, rfl, hc1, him⟩
 obtain ⟨vc, vd, vs, vi, vo, rfl, g1, g2, g3, g4, g5⟩ := id him
 obtain ⟨a1, ca1, rfl, _⟩ := id g1
 obtain ⟨a2, ca2, rfl, _⟩ := id g2
 obtain ⟨a3, ca3, rfl, _⟩ := id g3
 obtain ⟨a4, ca4, rfl, _⟩ := id g4
 obtain ⟨a5, ca5, rfl, _⟩ := id g5
 clear g1 g2 g3 g4 g5
 generalize (u32s ((wordsOf im.code im.nc).map fun n : Nat => (n : Int))).length = n1 at *
 generalize (i32s im.data).length = n2 at *
 generalize (bools im.sec).length = n3 at *
 generalize (ints (List.range l.length)).length = n4 at *
 generalize (ints [im.out]).length = n5 at *
 have HP := hide (Blk.new w1 29 [.slice a1 n1 ca1, .slice a2 n2 ca2, .slice a3 n3 ca3, .slice a4 n4 ca4, .slice a5 n5 ca5])
 have hcB : Chg w1 (w1.alloc (.cells #[.slice a1 n1 ca1, .slice a2 n2 ca2, .slice a3 n3 ca3, .slice a4 n4 ca4, .slice a5 n5 ca5] 29)) [] := (Chg.refl w1 []).alloc _
 have hcA : Chg w (w1.alloc (.cells #[.slice a1 n1 ca1, .slice a2 n2 ca2, .slice a3 n3 ca3, .slice a4 n4 ca4, .slice a5 n5 ca5] 29)) [] := hc1.alloc _
 have HIM1 := hide (him.keep hcB)
 have HC1 := hide hcA
 have hd := HDO.out _ hcA
 clear hi hc1 hcA hcB d0 him HDO
 go_wp2_with fail
 go_at_call 7
 refine hd.mono ?_
 rintro e W0 ⟨rfl, hc2⟩
 have HPb := hide (HP.out.chg hc2 (by simp))
 have hC2 := HC1.out.trans hc2 (by simp)
 have HC2 := hide hC2
 have HG0 := hide (HG.out.chg hC2 (by simp))
 have HZ0 := hide HG0.out.size
 have HIM := hide (HIM1.out.keep hc2)
 have HSB := hide (HS.out.keep hC2)
 clear hd hc2 hC2 HIM1 HP
 generalize hs : ((sumN 65535 l : Nat) : Int) = s at *
 generalize hK : im.marks l.length = K at *
 go_upto_region 7 with (fail)
 generalize w1.heap.size = P at *
 generalize hn : l.length = n at *
 refine wp_regionJ hmix.out _ _ (fun γ => vKc7 l s K A a1 a2 a3 a4 a5 n c n1 ca1 n2 ca2 n3 ca3 n4 ca4 n5 ca5 P γ) (fun (γ : Gh) L w' => RSW 2 (obKc7 l s K A a1 a2 a3 a4 a5 n c n1 ca1 n2 ca2 n3 ca3 n4 ca4 n5 ca5 P) chKc7 W0 [] γ L w') (fun _ => undef) (by kernel_rfl) [] (by kernel_rfl) (fun p hp γ => by simp at hp) (by kernel_rfl) ?step ?start ?fin ?ext
 case ext =>
  intro γ L L' w' h hw
  exact RSW.ext (fun j hj e he => h e (by
   match j, hj with
   | 0, _ => simp [chKc7] at he; rcases he with rfl <;> decide
   | 1, _ => simp [chKc7] at he; rcases he with rfl <;> decide
   )) hw
 case step =>
  intro i o ho L av w1 γ hdn htm hW hL hpre K' Q' hK
  match i, ho with
   | 0, ho =>
    injection ho with ho; subst ho
    have b3 : av.tmps.getD 3 undef = .pointer (some ⟨P, 0, none⟩) := slB htm 3 (by kernel_rfl)
    clear htm
    have hbb := HPb.out.chg (RSW.chg hW) (by simp)
    have y0 := hbb.cell' (i := 0) rfl
    have y1 := hbb.cell' (i := 1) rfl
    have y2 := hbb.cell' (i := 2) rfl
    have y3 := hbb.cell' (i := 3) rfl
    have y4 := hbb.cell' (i := 4) rfl
    refine val_now ?_ (hK γ w1 (fun _ _ => rfl) (RSW.same hW 0 (by decide))); go_simp; rfl
   | 1, ho =>
    injection ho with ho; subst ho
    have b0 : av.tmps.getD 0 undef = .slice A n c := slB htm 0 (by kernel_rfl)
    clear htm
    refine val_now ?_ (hK γ w1 (fun _ _ => rfl) (RSW.same hW 1 (by decide))); go_simp; rfl
   | 2, ho =>
    injection ho with ho; subst ho
    have s1 := slA htm 59 1 (by kernel_rfl) (hpre ⟨1, .data⟩ (by simp) rfl)
    simp only [vKc7] at s1
    clear htm
    have hm : cntE L (chKc7 0) = 0 := by simp [chKc7, cntE, hL]
    have hm2 : cntE (fun e => if e = 2 then true else L e) (chKc7 0) = 1 := by simp [chKc7, cntE]
    refine call_now (f := 10) (args := #[.slice A n c]) ?_ (rwords30_calls (HG0.out.chg (RSW.chg hW) (by simp)).size (HSB.out.keep (RSW.chg hW)) HBB.out (by have := HL1.out; omega)) ?_
    · go_simp
    · rintro e w2 ⟨v, rfl, hc, hs⟩
      exact ⟨_, rfl, hK (upd γ 2 (v)) w2 (agree_of hdn [2] (by kernel_rfl) hL (agKc7_2 l s K A a1 a2 a3 a4 a5 n c n1 ca1 n2 ca2 n3 ca3 n4 ca4 n5 ca5 P γ _)) (RSW.eff0 (stKc7 l s K A a1 a2 a3 a4 a5 n c n1 ca1 n2 ca2 n3 ca3 n4 ca4 n5 ca5 P) HZ0.out hW 2 0 (by decide) (by decide) hm hm2 hc (FactO.make (i := 2) (p := (fun v w => Sl w v (i32s (l.map fun n : Nat => (n : Int))))) hs) (fun q hq hn F h => by
      match q, hq, hn with
      | 0, _, hn => exact absurd rfl hn
      | 1, _, hn => exact h
    ))⟩
   | 3, ho =>
    injection ho with ho; subst ho
    have s0 := slA htm 58 0 (by kernel_rfl) (hpre ⟨0, .data⟩ (by simp) rfl)
    have s2 := slA htm 60 2 (by kernel_rfl) (hpre ⟨2, .data⟩ (by simp) rfl)
    simp only [vKc7] at s0 s2
    clear htm
    have hm : cntE L (chKc7 1) = 0 := by simp [chKc7, cntE, hL]
    have hm2 : cntE (fun e => if e = 3 then true else L e) (chKc7 1) = 1 := by simp [chKc7, cntE]
    have c2 : L 2 = true := hpre ⟨2, .chain⟩ (by simp) rfl
    obtain ⟨F_hs, h_hs, _, _⟩ := RSW.get hW 0 (by decide) (m := 1) (by simp [chKc7, cntE, c2])
    have hs := h_hs.2
    refine call_now (f := 9) (args := #[.agg #[.slice a1 n1 ca1, .slice a2 n2 ca2, .slice a3 n3 ca3, .slice a4 n4 ca4, .slice a5 n5 ca5], γ 2]) ?_ (lrun_calls (HG0.out.chg (RSW.chg hW) (by simp)) (HIM.out.keep (RSW.chg hW)) hs HWY.out) ?_
    · go_simp
    · rintro e w2 ⟨u, m, rfl, hc, ho, hm'⟩
      exact ⟨_, rfl, hK (upd γ 3 (.tuple #[u, m, .bool true])) w2 (agree_of hdn [3, 4, 5, 6, 7, 8, 9, 10] (by kernel_rfl) hL (agKc7_3 l s K A a1 a2 a3 a4 a5 n c n1 ca1 n2 ca2 n3 ca3 n4 ca4 n5 ca5 P γ _)) (RSW.eff0 (stKc7 l s K A a1 a2 a3 a4 a5 n c n1 ca1 n2 ca2 n3 ca3 n4 ca4 n5 ca5 P) HZ0.out hW 3 1 (by decide) (by decide) hm hm2 hc (FactO.make (i := 3) (p := (fun v w => ∃ u m, v = .tuple #[u, m, .bool true] ∧ w.ownsRow 0 21 1 u 1 (i32s [s]) ∧ w.ownsRow 0 74 3 m K.length (markCells (K.map mkI)))) ⟨u, m, rfl, own_low ho (Nat.zero_le _), own_low hm' (Nat.zero_le _)⟩) (fun q hq hn F h => by
      match q, hq, hn with
      | 0, _, hn => exact h
      | 1, _, hn => exact absurd rfl hn
    ))⟩
   | 4, ho =>
    injection ho with ho; subst ho
    have s3 := slA htm 61 3 (by kernel_rfl) (hpre ⟨3, .data⟩ (by simp) rfl)
    simp only [vKc7] at s3
    clear htm
    refine val_now ?_ (hK γ w1 (fun _ _ => rfl) (RSW.same hW 4 (by decide))); go_simp; rfl
   | 5, ho =>
    injection ho with ho; subst ho
    have s4 := slA htm 57 4 (by kernel_rfl) (hpre ⟨4, .data⟩ (by simp) rfl)
    simp only [vKc7] at s4
    clear htm
    have c3 : L 3 = true := hdn 4 _ rfl (hpre ⟨4, .data⟩ (by simp) rfl) ⟨3, .data⟩ (by simp) rfl
    obtain ⟨F_hf, h_hf, _, _⟩ := RSW.get hW 1 (by decide) (m := 1) (by simp [chKc7, cntE, c3])
    have hf := h_hf.2
    obtain ⟨_, _, hf, _⟩ := hf
    rw [hf] at s4
    refine val_now (v := exT (γ 3) 0) ?_ (hK γ w1 (fun _ _ => rfl) (RSW.same hW 5 (by decide))); rw [hf]; go_simp; first | done | rfl
   | 6, ho =>
    injection ho with ho; subst ho
    have s4 := slA htm 57 4 (by kernel_rfl) (hpre ⟨4, .data⟩ (by simp) rfl)
    simp only [vKc7] at s4
    clear htm
    have c3 : L 3 = true := hdn 4 _ rfl (hpre ⟨4, .data⟩ (by simp) rfl) ⟨3, .data⟩ (by simp) rfl
    obtain ⟨F_hf, h_hf, _, _⟩ := RSW.get hW 1 (by decide) (m := 1) (by simp [chKc7, cntE, c3])
    have hf := h_hf.2
    obtain ⟨_, _, hf, _⟩ := hf
    rw [hf] at s4
    refine val_now (v := exT (γ 3) 1) ?_ (hK γ w1 (fun _ _ => rfl) (RSW.same hW 6 (by decide))); rw [hf]; go_simp; first | done | rfl
   | 7, ho =>
    injection ho with ho; subst ho
    have s4 := slA htm 57 4 (by kernel_rfl) (hpre ⟨4, .data⟩ (by simp) rfl)
    simp only [vKc7] at s4
    clear htm
    have c3 : L 3 = true := hdn 4 _ rfl (hpre ⟨4, .data⟩ (by simp) rfl) ⟨3, .data⟩ (by simp) rfl
    obtain ⟨F_hf, h_hf, _, _⟩ := RSW.get hW 1 (by decide) (m := 1) (by simp [chKc7, cntE, c3])
    have hf := h_hf.2
    obtain ⟨_, _, hf, _⟩ := hf
    rw [hf] at s4
    refine val_now (v := exT (γ 3) 2) ?_ (hK γ w1 (fun _ _ => rfl) (RSW.same hW 7 (by decide))); rw [hf]; go_simp; first | done | rfl
   | 8, ho =>
    injection ho with ho; subst ho
    have s5 := slA htm 62 5 (by kernel_rfl) (hpre ⟨5, .data⟩ (by simp) rfl)
    simp only [vKc7] at s5
    clear htm
    refine val_now ?_ (hK γ w1 (fun _ _ => rfl) (RSW.same hW 8 (by decide))); go_simp; rfl
   | 9, ho =>
    injection ho with ho; subst ho
    have s6 := slA htm 63 6 (by kernel_rfl) (hpre ⟨6, .data⟩ (by simp) rfl)
    simp only [vKc7] at s6
    clear htm
    refine val_now ?_ (hK γ w1 (fun _ _ => rfl) (RSW.same hW 9 (by decide))); go_simp; rfl
   | 10, ho =>
    injection ho with ho; subst ho
    have s7 := slA htm 64 7 (by kernel_rfl) (hpre ⟨7, .data⟩ (by simp) rfl)
    simp only [vKc7] at s7
    clear htm
    refine val_now ?_ (hK γ w1 (fun _ _ => rfl) (RSW.same hW 10 (by decide))); go_simp; rfl
   | _ + 11, ho => cases ho
 case start =>
  refine RSW.start fun j hj => ?_
  match j, hj with
  | 0, _ => exact ⟨rfl, trivial⟩
  | 1, _ => exact ⟨rfl, trivial⟩
 case fin =>
 intro γ W2 hW
 obtain ⟨_, ⟨_, u, m, hf, hu, hm⟩, _⟩ := RSW.get hW 1 (by decide) (m := 1) rfl
 have hc2 := hW.chg
 obtain ⟨g, d, rfl, hNg, hgl, h8c, hcm, hcells⟩ := row_open2 hu (by decide)
 obtain ⟨B, e, rfl, hx'⟩ := row_open hm
 have HU0 := hide (hcells 0 _ rfl)
 have HC2' := hide (HC2.out.trans hc2 (by simp))
 have HG2 := hide (HG0.out.chg hc2 (by simp))
 have HZ2 := hide HG2.out.size
 have HOF := hide (show ∀ w1, Chg W2 w1 [] → Calls Tryz.prog 11 #[.slice A n c] w1 fun e w' => e = .returned (.int .i32 s) ∧ Chg w1 w' [] from fun w1 h1 => by
  have := rof_calls ((HSB.out.keep hc2).keep h1) HBB.out (by have := HL1.out; omega)
  rw [hs] at this
  exact this)
 have HCO := hide (show ∀ w1, Chg W2 w1 [] → Calls Tryz.prog 12 #[.slice B K.length e] w1 fun e w' => e = .returned (.int .i64 (sumC K)) ∧ Chg w1 w' [] from fun w1 h1 =>
  refcost_calls (own_chgD hm h1 (by simp)) HCH.out.2.2 HCH.out.2.1 HCH.out.1)
 rw [finG_puts, putsR_list, putsL_dst]
 simp only [List.map_cons, List.map_nil]
 rw [putsKc7]
 simp only [vKc7]
 rw [hf]
 simp only [exT_eq]
 clear hW hf hu hm hx' hcells hc2 hNg hgl h8c hcm
 generalize K.length = m at *
 generalize sumC K = k at *
 go_wp2_with fail
 go_upto_region 8 with (fail)
 refine wp_regionJ hmix.out _ _ (fun γ => vKc8 s k A B n c g d m e γ) (fun (γ : Gh) L w' => RSW 0 (obKc8 s k A B n c g d m e) chKc8 W2 [] γ L w') (fun _ => undef) (by kernel_rfl) [(2, true), (6, true), (9, true), (14, true), (22, true), (29, true), (35, true)] (by kernel_rfl) (fun p hp γ => by simp at hp; rcases hp with rfl | rfl | rfl | rfl | rfl | rfl | rfl <;> rfl) (by kernel_rfl) ?step ?start ?fin ?ext
 case ext =>
  intro γ L L' w' h hw
  exact RSW.ext (fun j hj => absurd hj (by omega)) hw
 case step =>
  intro i o ho L av w1 γ hdn htm hW hL hpre K' Q' hK
  match i, ho with
   | 0, ho =>
    injection ho with ho; subst ho
    have b4 : av.tmps.getD 4 undef = .int .i64 0 := slB htm 4 (by kernel_rfl)
    clear htm
    refine val_now ?_ (hK γ w1 (fun _ _ => rfl) (RSW.same hW 0 (by decide))); go_simp; rfl
   | 1, ho =>
    injection ho with ho; subst ho
    have s0 := slA htm 65 0 (by kernel_rfl) (hpre ⟨0, .data⟩ (by simp) rfl)
    simp only [vKc8] at s0
    clear htm
    refine val_now ?_ (hK γ w1 (fun _ _ => rfl) (RSW.same hW 1 (by decide))); go_simp; rfl
   | 2, ho =>
    injection ho with ho; subst ho
    have s1 := slA htm 66 1 (by kernel_rfl) (hpre ⟨1, .data⟩ (by simp) rfl)
    simp only [vKc8] at s1
    clear htm
    refine val_now ?_ (hK γ w1 (fun _ _ => rfl) (RSW.same hW 2 (by decide))); go_simp; rfl
   | 3, ho =>
    injection ho with ho; subst ho
    have b7 : av.tmps.getD 7 undef = .int .i64 0 := slB htm 7 (by kernel_rfl)
    clear htm
    refine val_now ?_ (hK γ w1 (fun _ _ => rfl) (RSW.same hW 3 (by decide))); go_simp; rfl
   | 4, ho =>
    injection ho with ho; subst ho
    have s3 := slA htm 68 3 (by kernel_rfl) (hpre ⟨3, .data⟩ (by simp) rfl)
    simp only [vKc8] at s3
    clear htm
    refine val_now ?_ (hK γ w1 (fun _ _ => rfl) (RSW.same hW 4 (by decide))); go_simp; rfl
   | 5, ho =>
    injection ho with ho; subst ho
    have s2 := slA htm 67 2 (by kernel_rfl) (hpre ⟨2, .data⟩ (by simp) rfl)
    have s4 := slA htm 69 4 (by kernel_rfl) (hpre ⟨4, .data⟩ (by simp) rfl)
    simp only [vKc8] at s2 s4
    clear htm
    refine val_now ?_ (hK γ w1 (fun _ _ => rfl) (RSW.same hW 5 (by decide))); go_simp; rfl
   | 6, ho =>
    injection ho with ho; subst ho
    have s5 := slA htm 70 5 (by kernel_rfl) (hpre ⟨5, .data⟩ (by simp) rfl)
    simp only [vKc8] at s5
    clear htm
    refine val_now ?_ (hK γ w1 (fun _ _ => rfl) (RSW.same hW 6 (by decide))); go_simp; rfl
   | 7, ho =>
    injection ho with ho; subst ho
    have b10 : av.tmps.getD 10 undef = .bool true := slB htm 10 (by kernel_rfl)
    clear htm
    refine val_now ?_ (hK γ w1 (fun _ _ => rfl) (RSW.same hW 7 (by decide))); go_simp; rfl
   | 8, ho =>
    injection ho with ho; subst ho
    have s6 := slA htm 71 6 (by kernel_rfl) (hpre ⟨6, .data⟩ (by simp) rfl)
    have s7 := slA htm 72 7 (by kernel_rfl) (hpre ⟨7, .data⟩ (by simp) rfl)
    simp only [vKc8] at s6 s7
    clear htm
    refine val_now ?_ (hK γ w1 (fun _ _ => rfl) (RSW.same hW 8 (by decide))); go_simp; rfl
   | 9, ho =>
    injection ho with ho; subst ho
    have s8 := slA htm 73 8 (by kernel_rfl) (hpre ⟨8, .data⟩ (by simp) rfl)
    simp only [vKc8] at s8
    clear htm
    refine val_now ?_ (hK γ w1 (fun _ _ => rfl) (RSW.same hW 9 (by decide))); go_simp; rfl
   | 10, ho =>
    injection ho with ho; subst ho
    have b8 : av.tmps.getD 8 undef = .slice (some ⟨g, 0, none⟩) 1 d := slB htm 8 (by kernel_rfl)
    clear htm
    refine val_now ?_ (hK γ w1 (fun _ _ => rfl) (RSW.same hW 10 (by decide))); go_simp; rfl
   | 11, ho =>
    injection ho with ho; subst ho
    have s10 := slA htm 75 10 (by kernel_rfl) (hpre ⟨10, .data⟩ (by simp) rfl)
    simp only [vKc8] at s10
    clear htm
    refine val_now ?_ (hK γ w1 (fun _ _ => rfl) (RSW.same hW 11 (by decide))); go_simp; rfl
   | 12, ho =>
    injection ho with ho; subst ho
    have s11 := slA htm 76 11 (by kernel_rfl) (hpre ⟨11, .data⟩ (by simp) rfl)
    simp only [vKc8] at s11
    clear htm
    refine val_now ?_ (hK γ w1 (fun _ _ => rfl) (RSW.same hW 12 (by decide))); go_simp; rfl
   | 13, ho =>
    injection ho with ho; subst ho
    have s9 := slA htm 74 9 (by kernel_rfl) (hpre ⟨9, .data⟩ (by simp) rfl)
    have s12 := slA htm 77 12 (by kernel_rfl) (hpre ⟨12, .data⟩ (by simp) rfl)
    simp only [vKc8] at s9 s12
    clear htm
    refine val_now ?_ (hK γ w1 (fun _ _ => rfl) (RSW.same hW 13 (by decide))); go_simp; rfl
   | 14, ho =>
    injection ho with ho; subst ho
    have s13 := slA htm 78 13 (by kernel_rfl) (hpre ⟨13, .data⟩ (by simp) rfl)
    simp only [vKc8] at s13
    clear htm
    refine val_now ?_ (hK γ w1 (fun _ _ => rfl) (RSW.same hW 14 (by decide))); go_simp; rfl
   | 15, ho =>
    injection ho with ho; subst ho
    have b8 : av.tmps.getD 8 undef = .slice (some ⟨g, 0, none⟩) 1 d := slB htm 8 (by kernel_rfl)
    clear htm
    refine val_now ?_ (hK γ w1 (fun _ _ => rfl) (RSW.same hW 15 (by decide))); go_simp; rfl
   | 16, ho =>
    injection ho with ho; subst ho
    have s15 := slA htm 80 15 (by kernel_rfl) (hpre ⟨15, .data⟩ (by simp) rfl)
    simp only [vKc8] at s15
    clear htm
    refine val_now ?_ (hK γ w1 (fun _ _ => rfl) (RSW.same hW 16 (by decide))); go_simp; rfl
   | 17, ho =>
    injection ho with ho; subst ho
    have s16 := slA htm 81 16 (by kernel_rfl) (hpre ⟨16, .data⟩ (by simp) rfl)
    simp only [vKc8] at s16
    clear htm
    have q0 := (RSW.chg hW).cell HU0.out (by simp)
    refine val_now ?_ (hK γ w1 (fun _ _ => rfl) (RSW.same hW 17 (by decide))); go_simp; rfl
   | 18, ho =>
    injection ho with ho; subst ho
    have b0 : av.tmps.getD 0 undef = .slice A n c := slB htm 0 (by kernel_rfl)
    clear htm
    refine val_now ?_ (hK γ w1 (fun _ _ => rfl) (RSW.same hW 18 (by decide))); go_simp; rfl
   | 19, ho =>
    injection ho with ho; subst ho
    have s18 := slA htm 83 18 (by kernel_rfl) (hpre ⟨18, .data⟩ (by simp) rfl)
    simp only [vKc8] at s18
    clear htm
    refine call_now (f := 11) (args := #[.slice A n c]) ?_ (HOF.out w1 (RSW.chg hW)) ?_
    · go_simp
    · rintro e w2 ⟨rfl, hc⟩
      exact ⟨_, rfl, hK γ w2 (fun _ _ => rfl) (RSW.quiet0 (stKc8 s k A B n c g d m e) hW 19 (by decide) hc (fun j hj F h => h))⟩
   | 20, ho =>
    injection ho with ho; subst ho
    have s17 := slA htm 82 17 (by kernel_rfl) (hpre ⟨17, .data⟩ (by simp) rfl)
    have s19 := slA htm 84 19 (by kernel_rfl) (hpre ⟨19, .data⟩ (by simp) rfl)
    simp only [vKc8] at s17 s19
    clear htm
    refine val_now ?_ (hK γ w1 (fun _ _ => rfl) (RSW.same hW 20 (by decide))); go_simp; rfl
   | 21, ho =>
    injection ho with ho; subst ho
    have s14 := slA htm 79 14 (by kernel_rfl) (hpre ⟨14, .data⟩ (by simp) rfl)
    have s20 := slA htm 85 20 (by kernel_rfl) (hpre ⟨20, .data⟩ (by simp) rfl)
    simp only [vKc8] at s14 s20
    clear htm
    refine val_now ?_ (hK γ w1 (fun _ _ => rfl) (RSW.same hW 21 (by decide))); go_simp; rfl
   | 22, ho =>
    injection ho with ho; subst ho
    have s21 := slA htm 86 21 (by kernel_rfl) (hpre ⟨21, .data⟩ (by simp) rfl)
    simp only [vKc8] at s21
    clear htm
    refine val_now ?_ (hK γ w1 (fun _ _ => rfl) (RSW.same hW 22 (by decide))); go_simp; rfl
   | 23, ho =>
    injection ho with ho; subst ho
    have b5 : av.tmps.getD 5 undef = .int .i32 s := slB htm 5 (by kernel_rfl)
    clear htm
    refine val_now ?_ (hK γ w1 (fun _ _ => rfl) (RSW.same hW 23 (by decide))); go_simp; rfl
   | 24, ho =>
    injection ho with ho; subst ho
    have b8 : av.tmps.getD 8 undef = .slice (some ⟨g, 0, none⟩) 1 d := slB htm 8 (by kernel_rfl)
    clear htm
    refine val_now ?_ (hK γ w1 (fun _ _ => rfl) (RSW.same hW 24 (by decide))); go_simp; rfl
   | 25, ho =>
    injection ho with ho; subst ho
    have s24 := slA htm 89 24 (by kernel_rfl) (hpre ⟨24, .data⟩ (by simp) rfl)
    simp only [vKc8] at s24
    clear htm
    refine val_now ?_ (hK γ w1 (fun _ _ => rfl) (RSW.same hW 25 (by decide))); go_simp; rfl
   | 26, ho =>
    injection ho with ho; subst ho
    have s25 := slA htm 90 25 (by kernel_rfl) (hpre ⟨25, .data⟩ (by simp) rfl)
    simp only [vKc8] at s25
    clear htm
    have q0 := (RSW.chg hW).cell HU0.out (by simp)
    refine val_now ?_ (hK γ w1 (fun _ _ => rfl) (RSW.same hW 26 (by decide))); go_simp; rfl
   | 27, ho =>
    injection ho with ho; subst ho
    have s23 := slA htm 88 23 (by kernel_rfl) (hpre ⟨23, .data⟩ (by simp) rfl)
    have s26 := slA htm 91 26 (by kernel_rfl) (hpre ⟨26, .data⟩ (by simp) rfl)
    simp only [vKc8] at s23 s26
    clear htm
    refine val_now ?_ (hK γ w1 (fun _ _ => rfl) (RSW.same hW 27 (by decide))); go_simp; rfl
   | 28, ho =>
    injection ho with ho; subst ho
    have s22 := slA htm 87 22 (by kernel_rfl) (hpre ⟨22, .data⟩ (by simp) rfl)
    have s27 := slA htm 92 27 (by kernel_rfl) (hpre ⟨27, .data⟩ (by simp) rfl)
    simp only [vKc8] at s22 s27
    clear htm
    refine val_now ?_ (hK γ w1 (fun _ _ => rfl) (RSW.same hW 28 (by decide))); go_simp; rfl
   | 29, ho =>
    injection ho with ho; subst ho
    have s28 := slA htm 93 28 (by kernel_rfl) (hpre ⟨28, .data⟩ (by simp) rfl)
    simp only [vKc8] at s28
    clear htm
    refine val_now ?_ (hK γ w1 (fun _ _ => rfl) (RSW.same hW 29 (by decide))); go_simp; rfl
   | 30, ho =>
    injection ho with ho; subst ho
    have b6 : av.tmps.getD 6 undef = .int .i64 k := slB htm 6 (by kernel_rfl)
    clear htm
    refine val_now ?_ (hK γ w1 (fun _ _ => rfl) (RSW.same hW 30 (by decide))); go_simp; rfl
   | 31, ho =>
    injection ho with ho; subst ho
    have b9 : av.tmps.getD 9 undef = .slice B m e := slB htm 9 (by kernel_rfl)
    clear htm
    refine val_now ?_ (hK γ w1 (fun _ _ => rfl) (RSW.same hW 31 (by decide))); go_simp; rfl
   | 32, ho =>
    injection ho with ho; subst ho
    have s31 := slA htm 96 31 (by kernel_rfl) (hpre ⟨31, .data⟩ (by simp) rfl)
    simp only [vKc8] at s31
    clear htm
    refine call_now (f := 12) (args := #[.slice B m e]) ?_ (HCO.out w1 (RSW.chg hW)) ?_
    · go_simp
    · rintro e w2 ⟨rfl, hc⟩
      exact ⟨_, rfl, hK γ w2 (fun _ _ => rfl) (RSW.quiet0 (stKc8 s k A B n c g d m e) hW 32 (by decide) hc (fun j hj F h => h))⟩
   | 33, ho =>
    injection ho with ho; subst ho
    have s30 := slA htm 95 30 (by kernel_rfl) (hpre ⟨30, .data⟩ (by simp) rfl)
    have s32 := slA htm 97 32 (by kernel_rfl) (hpre ⟨32, .data⟩ (by simp) rfl)
    simp only [vKc8] at s30 s32
    clear htm
    refine val_now ?_ (hK γ w1 (fun _ _ => rfl) (RSW.same hW 33 (by decide))); go_simp; rfl
   | 34, ho =>
    injection ho with ho; subst ho
    have s29 := slA htm 94 29 (by kernel_rfl) (hpre ⟨29, .data⟩ (by simp) rfl)
    have s33 := slA htm 98 33 (by kernel_rfl) (hpre ⟨33, .data⟩ (by simp) rfl)
    simp only [vKc8] at s29 s33
    clear htm
    refine val_now ?_ (hK γ w1 (fun _ _ => rfl) (RSW.same hW 34 (by decide))); go_simp; rfl
   | 35, ho =>
    injection ho with ho; subst ho
    have s34 := slA htm 99 34 (by kernel_rfl) (hpre ⟨34, .data⟩ (by simp) rfl)
    simp only [vKc8] at s34
    clear htm
    refine val_now ?_ (hK γ w1 (fun _ _ => rfl) (RSW.same hW 35 (by decide))); go_simp; rfl
   | 36, ho =>
    injection ho with ho; subst ho
    clear htm
    refine call_now (f := 5) (args := #[]) ?_ (awake30_calls (HG2.out.chg (RSW.chg hW) (by simp))) ?_
    · go_simp
    · rintro e w2 ⟨rfl, hc⟩
      exact ⟨_, rfl, hK γ w2 (fun _ _ => rfl) (RSW.quiet0 (stKc8 s k A B n c g d m e) hW 36 (by decide) hc (fun j hj F h => h))⟩
   | 37, ho =>
    injection ho with ho; subst ho
    have s35 := slA htm 100 35 (by kernel_rfl) (hpre ⟨35, .data⟩ (by simp) rfl)
    have s36 := slA htm 101 36 (by kernel_rfl) (hpre ⟨36, .data⟩ (by simp) rfl)
    simp only [vKc8] at s35 s36
    clear htm
    refine val_now ?_ (hK γ w1 (fun _ _ => rfl) (RSW.same hW 37 (by decide))); go_simp; rfl
   | 38, ho =>
    injection ho with ho; subst ho
    have s37 := slA htm 102 37 (by kernel_rfl) (hpre ⟨37, .data⟩ (by simp) rfl)
    simp only [vKc8] at s37
    clear htm
    refine val_now ?_ (hK γ w1 (fun _ _ => rfl) (RSW.same hW 38 (by decide))); go_simp; rfl
   | _ + 39, ho => cases ho
 case start => exact RSW.start fun j hj => absurd hj (by omega)
 case fin =>
 intro γ W5 hW
 have hc5 := hW.chg
 rw [finG_puts, putsR_list, putsL_dst]
 simp only [List.map_cons, List.map_nil]
 rw [putsKc8]
 simp only [vKc8]
 go_wp2
 go_ret
 exact ⟨rfl, HC2'.out.trans hc5 (by simp)⟩
theorem bytes_of : ∀ (z : List Int), (∀ n ∈ z, 0 ≤ n ∧ n ≤ 255) → ∃ l : List Nat, z = l.map (fun n : Nat => (n : Int)) ∧ ∀ x ∈ l, x < 256
 | [], _ => ⟨[], rfl, by simp⟩
 | a :: t, h => by
  obtain ⟨l, h1, h2⟩ := bytes_of t (fun n hn => h n (List.mem_cons_of_mem _ hn))
  have ha := h a (List.mem_cons_self ..)
  refine ⟨a.toNat :: l, ?_, fun x hx => ?_⟩
  · rw [List.map_cons, ← h1, Int.toNat_of_nonneg ha.1]
  · rcases List.mem_cons.1 hx with rfl | hx
    · omega
    · exact h2 x hx
theorem kcrcRuns_calls {w : World} (hg : Glo w) {v : Value} {l : List Nat} (h : Sl w v (u8c l)) (hb : ∀ x ∈ l, x < 256) (hlm : l.length ≤ maxLen) : Calls Tryz.prog 3 #[v] w fun e w' => e = .returned (.bool true) ∧ Chg w w' [] := by
 by_cases h100 : 100 < l.length
 · obtain ⟨A, c, rfl, hx⟩ := sl_open h
   rw [u8c_length]
   have d0 : decide ((100 : Int) < (l.length : Int)) = true := decide_eq_true (by omega)
   have haw := awake30_calls hg
   clear h hx hg hb
   go_enter Tryz.func3, Tryz.ntmps3
   go_wp2_with fail
   go_at_call 5
   refine haw.mono ?_
   rintro e w1 ⟨rfl, hc1⟩
   have HC := hide hc1
   clear haw hc1
   go_wp2
   go_ret
   exact ⟨rfl, HC.out⟩
 · by_cases hn : l.length < 1 ∨ 64 < l.length
   · exact kcrcNo_calls hg h (by omega) hn
   · exact kcrcYes_calls hg h hb (by omega) (by omega)
end Go.Proofs.YthnhilghjadigaaGreatDoor
