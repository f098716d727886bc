/- VoteOne: the law's walk. -/
import Derived.Test.YtihgijhjhmjolaaGreatDoorPanelH
import Derived.Test.YtihgijhjhmjolaaGreatDoorVP18
import Derived.Test.YtihgijhjhmjolaaGreatDoorLost
import Derived.Test.YtihgijhjhmjolaaGreatDoorVP19
namespace Go.Proofs.YtihgijhjhmjolaaGreatDoor.Xi
open Go Go.RowKit Go.Deep
set_option linter.unusedVariables false
theorem one_an (D O : An) : (∃ n, chosenA O D D = some (D, n) ∧ (n = -1 ∨ n = 0)) ∧ (∃ n, chosenA D O D = some (D, n) ∧ (n = -1 ∨ n = 1)) ∧ (∃ n, chosenA D D O = some (D, n) ∧ (n = -1 ∨ n = 2)) := by
 unfold chosenA
 by_cases h : D = O
 · subst h
   simp [An.eqB_true.2 rfl]
 · have h' : ¬ O = D := fun e => h e.symm
   simp [An.eqB_true.2 rfl, An.eqB_false.2 h, An.eqB_false.2 h']
def vO13 (p Lb : Nat) (s0 s1 s2 : Value) (rn re : Int) (γ : Value) : Nat → Value
 | 0 => .pointer (some ⟨p, 0, none⟩)
 | 1 => .slice (some ⟨Lb, 0, none⟩) 3 3
 | 2 => .pointer (some ⟨Lb, 0, none⟩)
 | 3 => s0
 | 4 => .slice (some ⟨Lb, 0, none⟩) 3 3
 | 5 => .pointer (some ⟨Lb, 1, none⟩)
 | 6 => s1
 | 7 => .slice (some ⟨Lb, 0, none⟩) 3 3
 | 8 => .pointer (some ⟨Lb, 2, none⟩)
 | 9 => s2
 | 10 => .tuple #[γ, .int .i64 rn, .int .i64 re]
 | 11 => .tuple #[γ, .int .i64 rn, .int .i64 re]
 | 12 => γ
 | 13 => .int .i64 rn
 | 14 => .int .i64 re
 | 15 => γ
 | 16 => .int .i64 rn
 | 17 => .int .i64 re
 | _ => undef
structure WO13 (w0 : World) (p : Nat) (y : St) (ra rb rc : Int) (t : ByteArray) (γ : Value) (L : Nat → Bool) (w : World) : Prop where
 chg : Chg w0 w [p]
 old : L 10 = false → Chg w0 w []
 new : L 10 = true → Pan w p y ra rb rc ∧ Bs w γ t
theorem WO13.ext {w0 : World} {p : Nat} {y : St} {ra rb rc : Int} {t : ByteArray} {γ : Value} {L L' : Nat → Bool} {w : World} (h : WO13 w0 p y ra rb rc t γ L w) (e : L 10 = L' 10) : WO13 w0 p y ra rb rc t γ L' w :=
 ⟨h.chg, by rw [← e]; exact h.old, by rw [← e]; exact h.new⟩
def vO16 (p T : Nat) (sa sb : Value) (t : ByteArray) (e n k r : Int) (x : St) (o : Bool) : Nat → Value
 | 0 => sa
 | 1 => .string t
 | 2 => sb
 | 3 => .string t
 | 4 => .bool false
 | 5 => .bool false
 | 6 => .int .i64 e
 | 7 => .int .i64 e
 | 8 => .bool false
 | 9 => .bool false
 | 10 => .bool false
 | 11 => .pointer (some ⟨p, 0, none⟩)
 | 12 => .agg #[.int .i32 x.q.a.v, .int .i32 x.q.b.v, .int .i32 x.q.c.v, .int .i32 x.q.d.v, .int .i64 x.s, .int .i64 x.f, .int .i64 x.g]
 | 13 => .agg #[.int .i32 x.q.a.v, .int .i32 x.q.b.v, .int .i32 x.q.c.v, .int .i32 x.q.d.v, .int .i64 x.s, .int .i64 x.f, .int .i64 x.g]
 | 14 => .bool false
 | 15 => .bool false
 | 16 => .bool false
 | 17 => .int .i64 n
 | 18 => .bool o
 | 19 => .bool o
 | 20 => bif o then .int .i64 n else undef
 | 21 => bif o then .pointer (some ⟨T, 0, none⟩) else undef
 | 22 => bif o then .int .u8 r else undef
 | 23 => bif o then .int .u8 k else undef
 | 24 => bif o then .int .i64 k else undef
 | 25 => bif o then .bool false else undef
 | 26 => .bool false
 | 27 => .bool false
 | _ => undef
theorem putsO13 (v : Nat → Value) (t0 t1 t2 t3 t4 t5 t6 t7 t8 t9 t10 t11 t12 t13 t14 t15 t16 t17 t18 t19 t20 t21 t22 t23 t24 t25 t26 t27 t28 t29 t30 t31 t32 t33 t34 t35 t36 t37 t38 t39 t40 t41 t42 t43 t44 t45 t46 t47 t48 t49 t50 t51 t52 t53 t54 t55 t56 t57 t58 t59 t60 t61 t62 t63 t64 t65 t66 t67 t68 t69 t70 t71 t72 t73 t74 t75 t76 t77 t78 t79 t80 t81 t82 t83 t84 t85 t86 t87 t88 t89 t90 t91 t92 t93 t94 t95 t96 t97 t98 t99 t100 t101 t102 t103 t104 t105 t106 t107 t108 t109 t110 t111 t112 t113 t114 t115 : Value) : putsD v (some 64 :: some 65 :: some 66 :: some 67 :: some 68 :: some 69 :: some 70 :: some 71 :: some 72 :: some 73 :: some 74 :: some 63 :: some 75 :: some 76 :: some 77 :: some 8 :: some 9 :: some 10 :: []) 0 (t0 :: t1 :: t2 :: t3 :: t4 :: t5 :: t6 :: t7 :: t8 :: t9 :: t10 :: t11 :: t12 :: t13 :: t14 :: t15 :: t16 :: t17 :: t18 :: t19 :: t20 :: t21 :: t22 :: t23 :: t24 :: t25 :: t26 :: t27 :: t28 :: t29 :: t30 :: t31 :: t32 :: t33 :: t34 :: t35 :: t36 :: t37 :: t38 :: t39 :: t40 :: t41 :: t42 :: t43 :: t44 :: t45 :: t46 :: t47 :: t48 :: t49 :: t50 :: t51 :: t52 :: t53 :: t54 :: t55 :: t56 :: t57 :: t58 :: t59 :: t60 :: t61 :: t62 :: t63 :: t64 :: t65 :: t66 :: t67 :: t68 :: t69 :: t70 :: t71 :: t72 :: t73 :: t74 :: t75 :: t76 :: t77 :: t78 :: t79 :: t80 :: t81 :: t82 :: t83 :: t84 :: t85 :: t86 :: t87 :: t88 :: t89 :: t90 :: t91 :: t92 :: t93 :: t94 :: t95 :: t96 :: t97 :: t98 :: t99 :: t100 :: t101 :: t102 :: t103 :: t104 :: t105 :: t106 :: t107 :: t108 :: t109 :: t110 :: t111 :: t112 :: t113 :: t114 :: t115 :: []) = (t0 :: t1 :: t2 :: t3 :: t4 :: t5 :: t6 :: t7 :: v 15 :: v 16 :: v 17 :: t11 :: t12 :: t13 :: t14 :: t15 :: t16 :: t17 :: t18 :: t19 :: t20 :: t21 :: t22 :: t23 :: t24 :: t25 :: t26 :: t27 :: t28 :: t29 :: t30 :: t31 :: t32 :: t33 :: t34 :: t35 :: t36 :: t37 :: t38 :: t39 :: t40 :: t41 :: t42 :: t43 :: t44 :: t45 :: t46 :: t47 :: t48 :: t49 :: t50 :: t51 :: t52 :: t53 :: t54 :: t55 :: t56 :: t57 :: t58 :: t59 :: t60 :: t61 :: t62 :: v 11 :: v 0 :: v 1 :: v 2 :: v 3 :: v 4 :: v 5 :: v 6 :: v 7 :: v 8 :: v 9 :: v 10 :: v 12 :: v 13 :: v 14 :: t78 :: t79 :: t80 :: t81 :: t82 :: t83 :: t84 :: t85 :: t86 :: t87 :: t88 :: t89 :: t90 :: t91 :: t92 :: t93 :: t94 :: t95 :: t96 :: t97 :: t98 :: t99 :: t100 :: t101 :: t102 :: t103 :: t104 :: t105 :: t106 :: t107 :: t108 :: t109 :: t110 :: t111 :: t112 :: t113 :: t114 :: t115 :: []) := by kernel_rfl
theorem putsO16 (v : Nat → Value) (t0 t1 t2 t3 t4 t5 t6 t7 t8 t9 t10 t11 t12 t13 t14 t15 t16 t17 t18 t19 t20 t21 t22 t23 t24 t25 t26 t27 t28 t29 t30 t31 t32 t33 t34 t35 t36 t37 t38 t39 t40 t41 t42 t43 t44 t45 t46 t47 t48 t49 t50 t51 t52 t53 t54 t55 t56 t57 t58 t59 t60 t61 t62 t63 t64 t65 t66 t67 t68 t69 t70 t71 t72 t73 t74 t75 t76 t77 t78 t79 t80 t81 t82 t83 t84 t85 t86 t87 t88 t89 t90 t91 t92 t93 t94 t95 t96 t97 t98 t99 t100 t101 t102 t103 t104 t105 t106 t107 t108 t109 t110 t111 t112 t113 t114 t115 : Value) : putsD v (some 87 :: some 88 :: some 89 :: some 90 :: some 91 :: some 92 :: some 93 :: some 94 :: some 95 :: some 96 :: some 97 :: some 98 :: some 99 :: some 100 :: some 101 :: some 102 :: some 103 :: some 104 :: some 105 :: some 106 :: some 107 :: some 108 :: some 109 :: some 110 :: some 111 :: some 112 :: some 113 :: some 114 :: []) 0 (t0 :: t1 :: t2 :: t3 :: t4 :: t5 :: t6 :: t7 :: t8 :: t9 :: t10 :: t11 :: t12 :: t13 :: t14 :: t15 :: t16 :: t17 :: t18 :: t19 :: t20 :: t21 :: t22 :: t23 :: t24 :: t25 :: t26 :: t27 :: t28 :: t29 :: t30 :: t31 :: t32 :: t33 :: t34 :: t35 :: t36 :: t37 :: t38 :: t39 :: t40 :: t41 :: t42 :: t43 :: t44 :: t45 :: t46 :: t47 :: t48 :: t49 :: t50 :: t51 :: t52 :: t53 :: t54 :: t55 :: t56 :: t57 :: t58 :: t59 :: t60 :: t61 :: t62 :: t63 :: t64 :: t65 :: t66 :: t67 :: t68 :: t69 :: t70 :: t71 :: t72 :: t73 :: t74 :: t75 :: t76 :: t77 :: t78 :: t79 :: t80 :: t81 :: t82 :: t83 :: t84 :: t85 :: t86 :: t87 :: t88 :: t89 :: t90 :: t91 :: t92 :: t93 :: t94 :: t95 :: t96 :: t97 :: t98 :: t99 :: t100 :: t101 :: t102 :: t103 :: t104 :: t105 :: t106 :: t107 :: t108 :: t109 :: t110 :: t111 :: t112 :: t113 :: t114 :: t115 :: []) = (t0 :: t1 :: t2 :: t3 :: t4 :: t5 :: t6 :: t7 :: t8 :: t9 :: t10 :: t11 :: t12 :: t13 :: t14 :: t15 :: t16 :: t17 :: t18 :: t19 :: t20 :: t21 :: t22 :: t23 :: t24 :: t25 :: t26 :: t27 :: t28 :: t29 :: t30 :: t31 :: t32 :: t33 :: t34 :: t35 :: t36 :: t37 :: t38 :: t39 :: t40 :: t41 :: t42 :: t43 :: t44 :: t45 :: t46 :: t47 :: t48 :: t49 :: t50 :: t51 :: t52 :: t53 :: t54 :: t55 :: t56 :: t57 :: t58 :: t59 :: t60 :: t61 :: t62 :: t63 :: t64 :: t65 :: t66 :: t67 :: t68 :: t69 :: t70 :: t71 :: t72 :: t73 :: t74 :: t75 :: t76 :: t77 :: t78 :: t79 :: t80 :: t81 :: t82 :: t83 :: t84 :: t85 :: t86 :: v 0 :: v 1 :: v 2 :: v 3 :: v 4 :: v 5 :: v 6 :: v 7 :: v 8 :: v 9 :: v 10 :: v 11 :: v 12 :: v 13 :: v 14 :: v 15 :: v 16 :: v 17 :: v 18 :: v 19 :: v 20 :: v 21 :: v 22 :: v 23 :: v 24 :: v 25 :: v 26 :: v 27 :: t115 :: []) := by kernel_rfl
set_option maxRecDepth 100000 in
set_option maxHeartbeats 16000000 in
theorem voteOne_calls (A : Option Addr) (n c : Nat) (hm : n ≤ maxLen) (W : World) (hw : FTab W) (hT : Losts W A n) :
 Calls Tryz.prog 8 #[.slice A n c] W fun e w' => e = .returned (.bool true) ∧ Chg W w' [] := by
 have HW := hide hw
 have HT := hide hT
 replace hm := hide hm
 clear hw hT
 have hmix : Tryz.prog.follows .mixedOrders = true := by kernel_rfl
 replace hmix := hide hmix
 go_enter Tryz.func8, Tryz.ntmps8
 go_wp2_with fail
 refine (panNew_calls W).mono ?_
 rintro e w1 ⟨p, rfl, hp, hP, hc⟩
 replace hP := hide hP
 replace hc := hide hc
 by_cases hgt : (30 : Int) < (n : Int)
 · go_wp2_with fail
   refine (awake43_calls _).mono ?_
   rintro e w3 ⟨rfl, hc3⟩
   replace hc3 := hide hc3
   go_wp2_with fail
   go_ret
   exact ⟨rfl, hc.out.trans hc3.out (D := []) (by simp)⟩
 · go_wp2_with fail
   refine (rreset_calls _).mono ?_
   rintro e w3 ⟨rfl, hc3⟩
   have h0 : Chg W (w3.alloc (.cells #[.int .i32 1073741824, .int .i32 0, .int .i32 0, .int .i32 0, .int .i64 0, .int .i64 0, .int .i64 0] 25)) [] := (hc.out.trans hc3 (D := []) (by simp)).alloc _
   have p0 : Pan (w3.alloc (.cells #[.int .i32 1073741824, .int .i32 0, .int .i32 0, .int .i32 0, .int .i64 0, .int .i64 0, .int .i64 0] 25)) p st0 0 0 0 := Blk.alloc (Blk.chg hP.out hc3 (by simp)) _
   have q0 : Blk (w3.alloc (.cells #[.int .i32 1073741824, .int .i32 0, .int .i32 0, .int .i32 0, .int .i64 0, .int .i64 0, .int .i64 0] 25)) w3.heap.size 25 [.int .i32 st0.q.a.v, .int .i32 st0.q.b.v, .int .i32 st0.q.c.v, .int .i32 st0.q.d.v, .int .i64 st0.s, .int .i64 st0.f, .int .i64 st0.g] := by
    rw [show st0.q.a.v = 1073741824 by decide +kernel, show st0.q.b.v = 0 by decide +kernel, show st0.q.c.v = 0 by decide +kernel, show st0.q.d.v = 0 by decide +kernel]
    exact Blk.new w3 _ _
   have hpq : p < w3.heap.size := Nat.lt_of_lt_of_le (Blk.lt hP.out) hc3.size
   clear hc3 hP hc
   replace h0 := hide h0
   replace p0 := hide p0
   replace q0 := hide q0
   replace hpq := hide hpq
   replace hp := hide hp
   go_upto_region 5 with (fail)
   change Code.wp _ _ _ _ (w3.alloc (.cells #[.int .i32 1073741824, .int .i32 0, .int .i32 0, .int .i32 0, .int .i64 0, .int .i64 0, .int .i64 0] 25))
   generalize w3.alloc (.cells #[.int .i32 1073741824, .int .i32 0, .int .i32 0, .int .i32 0, .int .i64 0, .int .i64 0, .int .i64 0] 25) = w4 at *
   generalize w3.heap.size = sB at *
   go_wp2_with fail
   go_loopw [5] (fun v wr => ∃ (j : Nat) (x : St) (a b cc : Int), v = .int .i64 j ∧ j ≤ n ∧ Hid (x.right) ∧ Hid (Chg W wr []) ∧ Hid (Pan wr p x a b cc) ∧ Hid (Blk wr sB 25 [.int .i32 x.q.a.v, .int .i32 x.q.b.v, .int .i32 x.q.c.v, .int .i32 x.q.d.v, .int .i64 x.s, .int .i64 x.f, .int .i64 x.g])) (fun v _ => n - (intOf v).toNat)
   case atStart => exact ⟨0, st0, 0, 0, 0, rfl, by omega, hide st0_right, h0, p0, q0⟩
   case round =>
    obtain ⟨j, x, a, b, c', rfl, hj, hx, HK, HP, HS⟩ := hrel
    clear h0 p0 q0
    by_cases hlt : j < n
    · have k3 : decide ((j : Int) < (n : Int)) = true := by simpa using (by omega : (j : Int) < (n : Int))
      obtain ⟨bb, off, rfl, hall⟩ := HT.out (by omega)
      obtain ⟨r, v1, v2, e0, hr, e1, e2, ⟨Pd, nd, md, ds, rfl, s1, l1, t1, u1⟩, ⟨Po, no, mo, os, rfl, s2, l2, t2, u2⟩⟩ := hall j hlt
      clear hall
      replace e0 := HK.out.cell e0 (by simp)
      replace e1 := HK.out.cell e1 (by simp)
      replace e2 := HK.out.cell e2 (by simp)
      replace s1 := hide s1
      replace s2 := hide s2
      replace hr := hide hr
      have B1 := hide (show ds.length ≤ maxLen by omega)
      have B2 := hide (show os.length ≤ maxLen by omega)
      replace u1 := hide u1
      replace u2 := hide u2
      clear l1 t1 l2 t2
      go_upto_region 9 with (fail)
      have hsb : sB < wr.heap.size := Blk.lt HS.out
      have hpb : p < wr.heap.size := Blk.lt HP.out
      replace hsb := hide hsb
      replace hpb := hide hpb
      have hb := Blk.new wr 61 [.int .u8 r, .slice Pd nd md, .slice Po no mo]
      replace HK := hide (HK.out.alloc (.cells #[.int .u8 r, .slice Pd nd md, .slice Po no mo] 61))
      replace HP := hide (Blk.alloc HP.out (.cells #[.int .u8 r, .slice Pd nd md, .slice Po no mo] 61))
      replace HS := hide (Blk.alloc HS.out (.cells #[.int .u8 r, .slice Pd nd md, .slice Po no mo] 61))
      clear e0 e1 e2
      change Code.wp _ _ _ _ (wr.alloc (.cells #[.int .u8 r, .slice Pd nd md, .slice Po no mo] 61))
      generalize wr.alloc (.cells #[.int .u8 r, .slice Pd nd md, .slice Po no mo] 61) = w5 at *
      generalize wr.heap.size = T at *
      have b0 := hb.cell' (i := 0) rfl
      have b1 := hb.cell' (i := 1) rfl
      have b2 := hb.cell' (i := 2) rfl
      replace hb := hide hb
      by_cases h1 : (100 : Int) < (nd : Int)
      · clear hb
        go_wp2_with fail
        refine (awake43_calls _).mono ?_
        rintro e w9 ⟨rfl, hc9⟩
        have hend := hide (HK.out.trans hc9 (D := []) (by simp))
        clear hc9 HK HP HS
        go_wp2_with fail
        go_ret
        exact ⟨rfl, hend.out⟩
      by_cases h2 : (100 : Int) < (no : Int)
      · clear hb
        go_wp2_with fail
        refine (awake43_calls _).mono ?_
        rintro e w9 ⟨rfl, hc9⟩
        have hend := hide (HK.out.trans hc9 (D := []) (by simp))
        clear hc9 HK HP HS
        go_wp2_with fail
        go_ret
        exact ⟨rfl, hend.out⟩
      go_upto_region 12 with (fail)
      have hl5 := Blk.new w5 26 [.slice Pd nd md, .slice Pd nd md, .slice Pd nd md]
      have HK6 := hide (HK.out.alloc (.cells #[.slice Pd nd md, .slice Pd nd md, .slice Pd nd md] 26))
      have HP6 := hide (Blk.alloc HP.out (.cells #[.slice Pd nd md, .slice Pd nd md, .slice Pd nd md] 26))
      have HS6 := hide (Blk.alloc HS.out (.cells #[.slice Pd nd md, .slice Pd nd md, .slice Pd nd md] 26))
      have hb6 := hb.out.alloc (.cells #[.slice Pd nd md, .slice Pd nd md, .slice Pd nd md] 26)
      have hTL := hide hb.out.lt
      clear HK HP HS hb b0 b1 b2
      change Code.wp _ _ _ _ (w5.alloc (.cells #[.slice Pd nd md, .slice Pd nd md, .slice Pd nd md] 26))
      generalize w5.alloc (.cells #[.slice Pd nd md, .slice Pd nd md, .slice Pd nd md] 26) = w6 at *
      generalize w5.heap.size = Lb at *
      have b0 := hb6.cell' (i := 0) rfl
      have b1 := hb6.cell' (i := 1) rfl
      have b2 := hb6.cell' (i := 2) rfl
      replace hb6 := hide hb6
      obtain ⟨k, hk3, hrk⟩ : ∃ k : Nat, k < 3 ∧ Int.tmod r 3 = (k : Int) := ⟨(Int.tmod r 3).toNat, by have := hr.out; rw [Int.tmod_eq_emod_of_nonneg (by omega)]; omega, by have := hr.out; rw [Int.tmod_eq_emod_of_nonneg (by omega)]; omega⟩
      have hlk : w6.cell? ⟨Lb, k, none⟩ = some (.slice Pd nd md) := by
       rcases (by omega : k = 0 ∨ k = 1 ∨ k = 2) with rfl | rfl | rfl
       · exact hl5.cell' (i := 0) rfl
       · exact hl5.cell' (i := 1) rfl
       · exact hl5.cell' (i := 2) rfl
      have hlf := hl5.frozen k
      have hki : (k : Int) < 3 := by omega
      have hL7 := hl5.set_ k (.slice Po no mo)
      have hc7 := (Chg.refl w6 [Lb]).setCell ⟨Lb, k, none⟩ (.slice Po no mo) (.inl (by simp))
      replace hl5 := hide hl5
      replace hL7 := hide hL7
      replace hc7 := hide hc7
      go_upto_region 13 with (fail)
      clear hlk hlf b0 b1 b2
      change Code.wp _ _ _ _ (w6.setCell ⟨Lb, k, none⟩ (.slice Po no mo))
      have hTL' := hTL.out
      have HK7 := hide (HK6.out.trans hc7.out (D := []) (fun q hq => by have h1 := hpb.out; have h2 := hp.out; simp at hq; omega))
      have HP7 := hide (Blk.chg HP6.out hc7.out (by have := hpb.out; simp; omega))
      have HS7 := hide (HS6.out.chg hc7.out (by have := hsb.out; simp; omega))
      have hb7 := hide (hb6.out.chg hc7.out (by simp; omega))
      generalize w6.setCell ⟨Lb, k, none⟩ (.slice Po no mo) = w7 at *
      clear hc7 HK6 HP6 HS6 hb6 hl5
      obtain ⟨P0, n0, m0, xs0, P1, n1, m1, xs1, P2, n2, m2, xs2, hset, ⟨S0, S1, S2⟩, ⟨U0, U1, U2⟩, ⟨Q0, Q1, Q2⟩, rn, hch, hrn⟩ : ∃ P0 n0 m0 xs0 P1 n1 m1 xs1 P2 n2 m2 xs2, ([.slice Pd nd md, .slice Pd nd md, .slice Pd nd md] : List Value).set k (.slice Po no mo) = [.slice P0 n0 m0, .slice P1 n1 m1, .slice P2 n2 m2] ∧
       (Sl W (.slice P0 n0 m0) (u8s xs0) ∧ Sl W (.slice P1 n1 m1) (u8s xs1) ∧ Sl W (.slice P2 n2 m2) (u8s xs2)) ∧ ((∀ y ∈ xs0, y < 256) ∧ (∀ y ∈ xs1, y < 256) ∧ (∀ y ∈ xs2, y < 256)) ∧ (xs0.length ≤ maxLen ∧ xs1.length ≤ maxLen ∧ xs2.length ≤ maxLen) ∧
       ∃ rn : Int, chosenA (an x xs0) (an x xs1) (an x xs2) = some (an x ds, rn) ∧ (rn = -1 ∨ rn = (k : Int)) := by
       have h1 := one_an (an x ds) (an x os)
       rcases (by omega : k = 0 ∨ k = 1 ∨ k = 2) with rfl | rfl | rfl
       · obtain ⟨rn, e, h⟩ := h1.1
         exact ⟨_, _, _, os, _, _, _, ds, _, _, _, ds, rfl, ⟨s2.out, s1.out, s1.out⟩, ⟨u2.out, u1.out, u1.out⟩, ⟨B2.out, B1.out, B1.out⟩, rn, e, h⟩
       · obtain ⟨rn, e, h⟩ := h1.2.1
         exact ⟨_, _, _, ds, _, _, _, os, _, _, _, ds, rfl, ⟨s1.out, s2.out, s1.out⟩, ⟨u1.out, u2.out, u1.out⟩, ⟨B1.out, B2.out, B1.out⟩, rn, e, h⟩
       · obtain ⟨rn, e, h⟩ := h1.2.2
         exact ⟨_, _, _, ds, _, _, _, ds, _, _, _, os, rfl, ⟨s1.out, s1.out, s2.out⟩, ⟨u1.out, u1.out, u2.out⟩, ⟨B1.out, B1.out, B2.out⟩, rn, e, h⟩
      have hL7' := hL7.out
      rw [hset] at hL7'
      replace hL7' := hide hL7'
      obtain ⟨ra, rb, rc, hRR⟩ : ∃ ra rb rc, panR x a b c' (an x xs0) (an x xs1) (an x xs2) = ⟨(an x ds).s, ra, rb, rc, (an x ds).t, rn, (an x ds).e⟩ := ⟨_, _, _, by unfold panR; rw [hch]⟩
      have HC : ∀ w1, Chg w7 w1 [] → Calls Tryz.prog 24 #[.pointer (some ⟨p, 0, none⟩), .slice P0 n0 m0, .slice P1 n1 m1, .slice P2 n2 m2] w1 fun e w' => ∃ sv, e = .returned (.tuple #[sv, .int .i64 rn, .int .i64 (an x ds).e]) ∧ Bs w' sv (an x ds).t ∧ Pan w' p (an x ds).s ra rb rc ∧ Chg w1 w' [p] := fun w1 h => by
       have hh := HK7.out.trans h (D := []) (by simp)
       have := panFeed_calls x a b c' p (an x xs0) (an x xs1) (an x xs2) P0 P1 P2 n0 n1 n2 m0 m1 m2 xs0 xs1 xs2 w1 (HW.out.chg hh (by simp)) (Blk.chg HP7.out h (by simp)) (S0.keep hh) (S1.keep hh) (S2.keep hh)
        (fun w hw hs => plane x (right_64 hx.out) xs0 U0 Q0 _ w hw hs) (fun w hw hs => plane x (right_64 hx.out) xs1 U1 Q1 _ w hw hs) (fun w hw hs => plane x (right_64 hx.out) xs2 U2 Q2 _ w hw hs)
       rw [hRR] at this
       exact this
      have HD := hide (fun w1 hf hs => rlane x (right_64 hx.out) ds u1.out B1.out (.slice Pd nd md) w1 hf hs)
      have hDr := hide (an_right hx.out ds)
      generalize an x ds = D at *
      clear hset S0 S1 S2 U0 U1 U2 Q0 Q1 Q2 hch hRR hL7 s2 u2 B2 u1 B1
      replace HC := hide HC
      replace hrn := hide hrn
      replace hrk := hide hrk
      clear hki hk3 hTL'
      refine wp_regionG hmix.out _ _ (vO13 p Lb (.slice P0 n0 m0) (.slice P1 n1 m1) (.slice P2 n2 m2) rn D.e) (WO13 w7 p D.s ra rb rc D.t) undef (by kernel_rfl) (by kernel_rfl) (by kernel_rfl) ?step ?start ?fin ?ext
      case start => exact ⟨(Chg.refl w7 _).drew, (fun _ => (Chg.refl w7 _).drew), (fun h => by cases h)⟩
      case ext => exact fun γ L L' w' h hw => hw.ext (by rw [h 10 (by decide)])
      case step =>
       have HL : Blk w7 Lb 26 [.slice P0 n0 m0, .slice P1 n1 m1, .slice P2 n2 m2] := hL7'.out
       replace HC := HC.out
       have hpL : p < Lb := Nat.lt_trans hpb.out hTL.out
       intro i o ho L av w1 γ hdn htm hW hL hpre K Q hK
       match i, ho with
       | 0, ho =>
        injection ho with ho; subst ho
        have b3 : av.tmps.getD 3 undef = .pointer (some ⟨p, 0, none⟩) := slB htm 3 (by kernel_rfl)
        clear htm
        refine val_now ?_ (hK γ w1 (fun _ _ => rfl) (hW.ext (by simp))); go_simp; rfl
       | 1, ho =>
        injection ho with ho; subst ho
        have b7 : av.tmps.getD 7 undef = .slice (some ⟨Lb, 0, none⟩) 3 3 := slB htm 7 (by kernel_rfl)
        clear htm
        refine val_now ?_ (hK γ w1 (fun _ _ => rfl) (hW.ext (by simp))); go_simp; rfl
       | 2, ho =>
        injection ho with ho; subst ho
        have s1 := slA htm 65 1 (by kernel_rfl) (hpre ⟨1, .data⟩ (by simp) rfl)
        simp only [vO13] at s1
        clear htm
        refine val_now ?_ (hK γ w1 (fun _ _ => rfl) (hW.ext (by simp))); go_simp; rfl
       | 3, ho =>
        injection ho with ho; subst ho
        have s2 := slA htm 66 2 (by kernel_rfl) (hpre ⟨2, .data⟩ (by simp) rfl)
        simp only [vO13] at s2
        clear htm
        have c0 := (Blk.chg HL hW.chg (by simp; omega)).cell' (i := 0) rfl
        refine val_now ?_ (hK γ w1 (fun _ _ => rfl) (hW.ext (by simp))); go_simp; rfl
       | 4, ho =>
        injection ho with ho; subst ho
        have b7 : av.tmps.getD 7 undef = .slice (some ⟨Lb, 0, none⟩) 3 3 := slB htm 7 (by kernel_rfl)
        clear htm
        refine val_now ?_ (hK γ w1 (fun _ _ => rfl) (hW.ext (by simp))); go_simp; rfl
       | 5, ho =>
        injection ho with ho; subst ho
        have s4 := slA htm 68 4 (by kernel_rfl) (hpre ⟨4, .data⟩ (by simp) rfl)
        simp only [vO13] at s4
        clear htm
        refine val_now ?_ (hK γ w1 (fun _ _ => rfl) (hW.ext (by simp))); go_simp; rfl
       | 6, ho =>
        injection ho with ho; subst ho
        have s5 := slA htm 69 5 (by kernel_rfl) (hpre ⟨5, .data⟩ (by simp) rfl)
        simp only [vO13] at s5
        clear htm
        have c1 := (Blk.chg HL hW.chg (by simp; omega)).cell' (i := 1) rfl
        refine val_now ?_ (hK γ w1 (fun _ _ => rfl) (hW.ext (by simp))); go_simp; rfl
       | 7, ho =>
        injection ho with ho; subst ho
        have b7 : av.tmps.getD 7 undef = .slice (some ⟨Lb, 0, none⟩) 3 3 := slB htm 7 (by kernel_rfl)
        clear htm
        refine val_now ?_ (hK γ w1 (fun _ _ => rfl) (hW.ext (by simp))); go_simp; rfl
       | 8, ho =>
        injection ho with ho; subst ho
        have s7 := slA htm 71 7 (by kernel_rfl) (hpre ⟨7, .data⟩ (by simp) rfl)
        simp only [vO13] at s7
        clear htm
        refine val_now ?_ (hK γ w1 (fun _ _ => rfl) (hW.ext (by simp))); go_simp; rfl
       | 9, ho =>
        injection ho with ho; subst ho
        have s8 := slA htm 72 8 (by kernel_rfl) (hpre ⟨8, .data⟩ (by simp) rfl)
        simp only [vO13] at s8
        clear htm
        have c2 := (Blk.chg HL hW.chg (by simp; omega)).cell' (i := 2) rfl
        refine val_now ?_ (hK γ w1 (fun _ _ => rfl) (hW.ext (by simp))); go_simp; rfl
       | 10, ho =>
        injection ho with ho; subst ho
        have s0 := slA htm 64 0 (by kernel_rfl) (hpre ⟨0, .data⟩ (by simp) rfl)
        have s3 := slA htm 67 3 (by kernel_rfl) (hpre ⟨3, .data⟩ (by simp) rfl)
        have s6 := slA htm 70 6 (by kernel_rfl) (hpre ⟨6, .data⟩ (by simp) rfl)
        have s9 := slA htm 73 9 (by kernel_rfl) (hpre ⟨9, .data⟩ (by simp) rfl)
        simp only [vO13] at s0 s3 s6 s9
        clear htm
        have h0 := hW.old hL
        refine call_now (f := 24) (args := #[.pointer (some ⟨p, 0, none⟩), .slice P0 n0 m0, .slice P1 n1 m1, .slice P2 n2 m2]) ?_ (HC w1 h0) ?_
        · go_simp
        · rintro e w2 ⟨sa, rfl, hbs, hpn, hc⟩
          refine ⟨_, rfl, hK sa w2 (fun j hj => ?_) ⟨hW.chg.trans hc (fun k hk => .inl hk), (fun h => by simp at h), fun _ => ⟨hpn, hbs⟩⟩⟩
          have n11 : L 11 = false := by
           cases h : L 11 with
           | false => rfl
           | true => have this : L 10 = true := hdn 11 _ rfl h ⟨10, .data⟩ (by simp) rfl; rw [hL] at this; cases this
          have n12 : L 12 = false := by
           cases h : L 12 with
           | false => rfl
           | true => have this : L 11 = true := hdn 12 _ rfl h ⟨11, .data⟩ (by simp) rfl; rw [n11] at this; cases this
          have n15 : L 15 = false := by
           cases h : L 15 with
           | false => rfl
           | true => have this : L 12 = true := hdn 15 _ rfl h ⟨12, .data⟩ (by simp) rfl; rw [n12] at this; cases this
          match j, hj with
          | 0, _ => rfl
          | 1, _ => rfl
          | 2, _ => rfl
          | 3, _ => rfl
          | 4, _ => rfl
          | 5, _ => rfl
          | 6, _ => rfl
          | 7, _ => rfl
          | 8, _ => rfl
          | 9, _ => rfl
          | 10, hj => rw [hL] at hj; cases hj
          | 11, hj => rw [n11] at hj; cases hj
          | 12, hj => rw [n12] at hj; cases hj
          | 13, _ => rfl
          | 14, _ => rfl
          | 15, hj => rw [n15] at hj; cases hj
          | 16, _ => rfl
          | 17, _ => rfl
          | _ + 18, _ => rfl
       | 11, ho =>
        injection ho with ho; subst ho
        have s10 := slA htm 74 10 (by kernel_rfl) (hpre ⟨10, .data⟩ (by simp) rfl)
        simp only [vO13] at s10
        clear htm
        refine val_now ?_ (hK γ w1 (fun _ _ => rfl) (hW.ext (by simp))); go_simp; rfl
       | 12, ho =>
        injection ho with ho; subst ho
        have s11 := slA htm 63 11 (by kernel_rfl) (hpre ⟨11, .data⟩ (by simp) rfl)
        simp only [vO13] at s11
        clear htm
        refine val_now ?_ (hK γ w1 (fun _ _ => rfl) (hW.ext (by simp))); go_simp; rfl
       | 13, ho =>
        injection ho with ho; subst ho
        have s11 := slA htm 63 11 (by kernel_rfl) (hpre ⟨11, .data⟩ (by simp) rfl)
        simp only [vO13] at s11
        clear htm
        refine val_now ?_ (hK γ w1 (fun _ _ => rfl) (hW.ext (by simp))); go_simp; rfl
       | 14, ho =>
        injection ho with ho; subst ho
        have s11 := slA htm 63 11 (by kernel_rfl) (hpre ⟨11, .data⟩ (by simp) rfl)
        simp only [vO13] at s11
        clear htm
        refine val_now ?_ (hK γ w1 (fun _ _ => rfl) (hW.ext (by simp))); go_simp; rfl
       | 15, ho =>
        injection ho with ho; subst ho
        have s12 := slA htm 75 12 (by kernel_rfl) (hpre ⟨12, .data⟩ (by simp) rfl)
        simp only [vO13] at s12
        clear htm
        refine val_now ?_ (hK γ w1 (fun _ _ => rfl) (hW.ext (by simp))); go_simp; rfl
       | 16, ho =>
        injection ho with ho; subst ho
        have s13 := slA htm 76 13 (by kernel_rfl) (hpre ⟨13, .data⟩ (by simp) rfl)
        simp only [vO13] at s13
        clear htm
        refine val_now ?_ (hK γ w1 (fun _ _ => rfl) (hW.ext (by simp))); go_simp; rfl
       | 17, ho =>
        injection ho with ho; subst ho
        have s14 := slA htm 77 14 (by kernel_rfl) (hpre ⟨14, .data⟩ (by simp) rfl)
        simp only [vO13] at s14
        clear htm
        refine val_now ?_ (hK γ w1 (fun _ _ => rfl) (hW.ext (by simp))); go_simp; rfl
       | _ + 18, ho => cases ho
      case fin =>
      intro γ w8 hW
      rw [finG_puts, putsR_list, putsL_dst]
      simp only [List.map_cons, List.map_nil]
      rw [putsO13]
      simp only [vO13]
      obtain ⟨hpn, hbs⟩ := hW.new rfl
      have hc8 := hW.chg
      clear hW HC hL7'
      have HP8 := hide hpn
      have HSA8 := hide hbs
      have HK8 := hide (HK7.out.trans hc8 (D := []) (fun q hq => by have := hp.out; simp at hq; omega))
      have HS8 := HS7.out.chg hc8 (by have := hpq.out; simp; omega)
      have hb8 := hb7.out.chg hc8 (by have := hpb.out; simp; omega)
      clear hpn hbs hc8 HK7 HP7 HS7 hb7
      have b0 := hb8.cell' (i := 0) rfl
      have b1 := hb8.cell' (i := 1) rfl
      have b2 := hb8.cell' (i := 2) rfl
      have y0 := HS8.cell' (i := 0) rfl
      have y1 := HS8.cell' (i := 1) rfl
      have y2 := HS8.cell' (i := 2) rfl
      have y3 := HS8.cell' (i := 3) rfl
      have y4 := HS8.cell' (i := 4) rfl
      have y5 := HS8.cell' (i := 5) rfl
      have y6 := HS8.cell' (i := 6) rfl
      replace hb8 := hide hb8
      replace HS8 := hide HS8
      go_wp2_with fail
      refine (HD.out w8 (HW.out.chg HK8.out (by simp)) (s1.out.keep HK8.out)).mono ?_
      rintro e w9 ⟨⟨Bv, bn, bc, rfl, hsb⟩, hc9⟩
      have HP9 := hide (Blk.alloc (Blk.chg HP8.out hc9 (by simp)) (.cells #[.int .i32 D.s.q.a.v, .int .i32 D.s.q.b.v, .int .i32 D.s.q.c.v, .int .i32 D.s.q.d.v, .int .i64 D.s.s, .int .i64 D.s.f, .int .i64 D.s.g] 25))
      have HSA9 := hide ((HSA8.out.chg hc9).chg ((Chg.refl w9 []).alloc (.cells #[.int .i32 D.s.q.a.v, .int .i32 D.s.q.b.v, .int .i32 D.s.q.c.v, .int .i32 D.s.q.d.v, .int .i64 D.s.s, .int .i64 D.s.f, .int .i64 D.s.g] 25)))
      have HSB9 := hide (hsb.chg ((Chg.refl w9 []).alloc (.cells #[.int .i32 D.s.q.a.v, .int .i32 D.s.q.b.v, .int .i32 D.s.q.c.v, .int .i32 D.s.q.d.v, .int .i64 D.s.s, .int .i64 D.s.f, .int .i64 D.s.g] 25)))
      have HK9 := hide ((HK8.out.trans hc9 (D := []) (by simp)).alloc (.cells #[.int .i32 D.s.q.a.v, .int .i32 D.s.q.b.v, .int .i32 D.s.q.c.v, .int .i32 D.s.q.d.v, .int .i64 D.s.s, .int .i64 D.s.f, .int .i64 D.s.g] 25))
      have HS9 := (HS8.out.chg hc9 (by simp)).alloc (.cells #[.int .i32 D.s.q.a.v, .int .i32 D.s.q.b.v, .int .i32 D.s.q.c.v, .int .i32 D.s.q.d.v, .int .i64 D.s.s, .int .i64 D.s.f, .int .i64 D.s.g] 25)
      have hb9 := hide ((hb8.out.chg hc9 (by simp)).alloc (.cells #[.int .i32 D.s.q.a.v, .int .i32 D.s.q.b.v, .int .i32 D.s.q.c.v, .int .i32 D.s.q.d.v, .int .i64 D.s.s, .int .i64 D.s.f, .int .i64 D.s.g] 25))
      have hN9 := Blk.new w9 25 [.int .i32 D.s.q.a.v, .int .i32 D.s.q.b.v, .int .i32 D.s.q.c.v, .int .i32 D.s.q.d.v, .int .i64 D.s.s, .int .i64 D.s.f, .int .i64 D.s.g]
      clear hc9 HP8 HSA8 hsb HK8 HS8 hb8 HD b0 b1 b2 y0 y1 y2 y3 y4 y5 y6
      go_upto_region 15 with (fail)
      change Code.wp _ _ _ _ (w9.alloc (.cells #[.int .i32 D.s.q.a.v, .int .i32 D.s.q.b.v, .int .i32 D.s.q.c.v, .int .i32 D.s.q.d.v, .int .i64 D.s.s, .int .i64 D.s.f, .int .i64 D.s.g] 25))
      generalize w9.alloc (.cells #[.int .i32 D.s.q.a.v, .int .i32 D.s.q.b.v, .int .i32 D.s.q.c.v, .int .i32 D.s.q.d.v, .int .i64 D.s.s, .int .i64 D.s.f, .int .i64 D.s.g] 25) = w10 at *
      generalize w9.heap.size = N9 at *
      have z0 := hN9.cell' (i := 0) rfl
      have z1 := hN9.cell' (i := 1) rfl
      have z2 := hN9.cell' (i := 2) rfl
      have z3 := hN9.cell' (i := 3) rfl
      have z4 := hN9.cell' (i := 4) rfl
      have z5 := hN9.cell' (i := 5) rfl
      have z6 := hN9.cell' (i := 6) rfl
      have y0 := HS9.cell' (i := 0) rfl
      have yf0 := HS9.frozen 0
      have y1 := HS9.cell' (i := 1) rfl
      have yf1 := HS9.frozen 1
      have y2 := HS9.cell' (i := 2) rfl
      have yf2 := HS9.frozen 2
      have y3 := HS9.cell' (i := 3) rfl
      have yf3 := HS9.frozen 3
      have y4 := HS9.cell' (i := 4) rfl
      have yf4 := HS9.frozen 4
      have y5 := HS9.cell' (i := 5) rfl
      have yf5 := HS9.frozen 5
      have y6 := HS9.cell' (i := 6) rfl
      have yf6 := HS9.frozen 6
      clear hN9
      replace HS9 := hide HS9
      go_upto_region 16 with (fail)
      clear z0 z1 z2 z3 z4 z5 z6
      clear y0 yf0 y1 yf1 y2 yf2 y3 yf3 y4 yf4 y5 yf5 y6 yf6
      change Code.wp _ _ _ _ (put7 w10 sB (.int .i32 D.s.q.a.v) (.int .i32 D.s.q.b.v) (.int .i32 D.s.q.c.v) (.int .i32 D.s.q.d.v) (.int .i64 D.s.s) (.int .i64 D.s.f) (.int .i64 D.s.g))
      have hc11 := put7_chg w10 sB (.int .i32 D.s.q.a.v) (.int .i32 D.s.q.b.v) (.int .i32 D.s.q.c.v) (.int .i32 D.s.q.d.v) (.int .i64 D.s.s) (.int .i64 D.s.f) (.int .i64 D.s.g)
      have HS11 := hide (put7_blk HS9.out (.int .i32 D.s.q.a.v) (.int .i32 D.s.q.b.v) (.int .i32 D.s.q.c.v) (.int .i32 D.s.q.d.v) (.int .i64 D.s.s) (.int .i64 D.s.f) (.int .i64 D.s.g))
      have HP11 := hide (Blk.chg HP9.out hc11 (by have := hpq.out; simp; omega))
      have HSA11 := hide (not_stB HS9.out HSA9.out hc11)
      have HSB11 := hide (not_stB HS9.out HSB9.out hc11)
      have HK11 := hide (HK9.out.trans hc11 (D := []) (fun q hq => by have h1 := hpq.out; have h2 := hp.out; simp at hq; omega))
      have hb11 := hide (hb9.out.chg hc11 (by have := hsb.out; simp; omega))
      generalize put7 w10 sB (.int .i32 D.s.q.a.v) (.int .i32 D.s.q.b.v) (.int .i32 D.s.q.c.v) (.int .i32 D.s.q.d.v) (.int .i64 D.s.s) (.int .i64 D.s.f) (.int .i64 D.s.g) = w11 at *
      clear hc11 HS9 HP9 HSA9 HSB9 HK9 hb9
      obtain ⟨o, hon⟩ : ∃ o, (rn != -1) = o := ⟨_, rfl⟩
      replace hon := hide hon
      have hnk := hide (show o = true → (rn != (k : Int)) = false from fun h => by
       have h1 := hon.out
       rcases hrn.out with e | e
       · rw [h, e] at h1; simp at h1
       · rw [e]; simp)
      have hkw := hide (show IntKind.i64.wrap (k : Int) = (k : Int) by have h1 := hrk.out; have h2 := hr.out; rw [IntKind.wrap_i64]; rw [Int.tmod_eq_emod_of_nonneg (by omega)] at h1; omega)
      refine wp_regionK hmix.out _ _ (fun _ => vO16 p T γ (.slice Bv bn bc) D.t D.e rn k r D.s o) (fun (_ : Unit) (_ : Nat → Bool) w => Chg w11 w []) () (by kernel_rfl) [(5, false), (10, false), (16, false), (19, o)] (by kernel_rfl) (fun p hp γ => by simp at hp; rcases hp with rfl | rfl | rfl | rfl <;> rfl) (by kernel_rfl) ?step ?skip ?start ?fin ?ext
      case start => exact (Chg.refl w11 _).drew
      case ext => exact fun γ L L' w' h hw => hw
      case skip =>
       intro i o0 ho0 hw γ
       match i, ho0 with
        | 0, ho0 => injection ho0 with ho; subst ho; cases hw
        | 1, ho0 => injection ho0 with ho; subst ho; cases hw
        | 2, ho0 => injection ho0 with ho; subst ho; cases hw
        | 3, ho0 => injection ho0 with ho; subst ho; cases hw
        | 4, ho0 => injection ho0 with ho; subst ho; cases hw
        | 5, ho0 => injection ho0 with ho; subst ho; cases hw
        | 6, ho0 => injection ho0 with ho; subst ho; cases hw
        | 7, ho0 => injection ho0 with ho; subst ho; cases hw
        | 8, ho0 => injection ho0 with ho; subst ho; cases hw
        | 9, ho0 => injection ho0 with ho; subst ho; cases hw
        | 10, ho0 => injection ho0 with ho; subst ho; cases hw
        | 11, ho0 => injection ho0 with ho; subst ho; cases hw
        | 12, ho0 => injection ho0 with ho; subst ho; cases hw
        | 13, ho0 => injection ho0 with ho; subst ho; cases hw
        | 14, ho0 => injection ho0 with ho; subst ho; cases hw
        | 15, ho0 => injection ho0 with ho; subst ho; cases hw
        | 16, ho0 => injection ho0 with ho; subst ho; cases hw
        | 17, ho0 => injection ho0 with ho; subst ho; cases hw
        | 18, ho0 => injection ho0 with ho; subst ho; cases hw
        | 19, ho0 => injection ho0 with ho; subst ho; cases hw
        | 20, ho0 => injection ho0 with ho; subst ho; exact ⟨by rw [show o = false by cases o with | true => cases hw | false => rfl]; rfl, fun L w h => h⟩
        | 21, ho0 => injection ho0 with ho; subst ho; exact ⟨by rw [show o = false by cases o with | true => cases hw | false => rfl]; rfl, fun L w h => h⟩
        | 22, ho0 => injection ho0 with ho; subst ho; exact ⟨by rw [show o = false by cases o with | true => cases hw | false => rfl]; rfl, fun L w h => h⟩
        | 23, ho0 => injection ho0 with ho; subst ho; exact ⟨by rw [show o = false by cases o with | true => cases hw | false => rfl]; rfl, fun L w h => h⟩
        | 24, ho0 => injection ho0 with ho; subst ho; exact ⟨by rw [show o = false by cases o with | true => cases hw | false => rfl]; rfl, fun L w h => h⟩
        | 25, ho0 => injection ho0 with ho; subst ho; exact ⟨by rw [show o = false by cases o with | true => cases hw | false => rfl]; rfl, fun L w h => h⟩
        | 26, ho0 => injection ho0 with ho; subst ho; cases hw
        | 27, ho0 => injection ho0 with ho; subst ho; cases hw
        | _ + 28, ho0 => cases ho0
      case step =>
       have HP : Pan w11 p D.s ra rb rc := HP11.out
       have HS : Blk w11 sB 25 [.int .i32 D.s.q.a.v, .int .i32 D.s.q.b.v, .int .i32 D.s.q.c.v, .int .i32 D.s.q.d.v, .int .i64 D.s.s, .int .i64 D.s.f, .int .i64 D.s.g] := HS11.out
       have HT : Blk w11 T 61 [.int .u8 r, .slice Pd nd md, .slice Po no mo] := hb11.out
       have HSA := HSA11.out
       have HSB := HSB11.out
       replace hon := hon.out
       replace hnk := hnk.out
       replace hkw := hkw.out
       replace hrk := hrk.out
       intro i o0 ho0 hwt L av w1 γ' hdn htm hW hL hpre K Q hK
       match i, ho0 with
       | 0, ho0 =>
        injection ho0 with ho; subst ho
        have b8 : av.tmps.getD 8 undef = γ := slB htm 8 (by kernel_rfl)
        clear htm
        refine val_now ?_ (hK () w1 (fun _ _ => rfl) hW); go_simp; rfl
       | 1, ho0 =>
        injection ho0 with ho; subst ho
        have s0 := slA htm 87 0 (by kernel_rfl) (hpre ⟨0, .data⟩ (by simp) rfl)
        simp only [vO16] at s0
        clear htm
        have cx := conv_str (HSA.chg hW)
        refine val_now ?_ (hK () w1 (fun _ _ => rfl) hW); go_simp; rfl
       | 2, ho0 =>
        injection ho0 with ho; subst ho
        have b12 : av.tmps.getD 12 undef = .slice Bv bn bc := slB htm 12 (by kernel_rfl)
        clear htm
        refine val_now ?_ (hK () w1 (fun _ _ => rfl) hW); go_simp; rfl
       | 3, ho0 =>
        injection ho0 with ho; subst ho
        have s2 := slA htm 89 2 (by kernel_rfl) (hpre ⟨2, .data⟩ (by simp) rfl)
        simp only [vO16] at s2
        clear htm
        have cx := conv_str (HSB.chg hW)
        refine val_now ?_ (hK () w1 (fun _ _ => rfl) hW); go_simp; rfl
       | 4, ho0 =>
        injection ho0 with ho; subst ho
        have s1 := slA htm 88 1 (by kernel_rfl) (hpre ⟨1, .data⟩ (by simp) rfl)
        have s3 := slA htm 90 3 (by kernel_rfl) (hpre ⟨3, .data⟩ (by simp) rfl)
        simp only [vO16] at s1 s3
        clear htm
        refine val_now ?_ (hK () w1 (fun _ _ => rfl) hW); go_simp; rfl
       | 5, ho0 =>
        injection ho0 with ho; subst ho
        have s4 := slA htm 91 4 (by kernel_rfl) (hpre ⟨4, .data⟩ (by simp) rfl)
        simp only [vO16] at s4
        clear htm
        refine val_now ?_ (hK () w1 (fun _ _ => rfl) hW); go_simp; rfl
       | 6, ho0 =>
        injection ho0 with ho; subst ho
        have b10 : av.tmps.getD 10 undef = .int .i64 D.e := slB htm 10 (by kernel_rfl)
        clear htm
        refine val_now ?_ (hK () w1 (fun _ _ => rfl) hW); go_simp; rfl
       | 7, ho0 =>
        injection ho0 with ho; subst ho
        have b13 : av.tmps.getD 13 undef = .int .i64 D.e := slB htm 13 (by kernel_rfl)
        clear htm
        refine val_now ?_ (hK () w1 (fun _ _ => rfl) hW); go_simp; rfl
       | 8, ho0 =>
        injection ho0 with ho; subst ho
        have s6 := slA htm 93 6 (by kernel_rfl) (hpre ⟨6, .data⟩ (by simp) rfl)
        have s7 := slA htm 94 7 (by kernel_rfl) (hpre ⟨7, .data⟩ (by simp) rfl)
        simp only [vO16] at s6 s7
        clear htm
        refine val_now ?_ (hK () w1 (fun _ _ => rfl) hW); go_simp; rfl
       | 9, ho0 =>
        injection ho0 with ho; subst ho
        have s5 := slA htm 92 5 (by kernel_rfl) (hpre ⟨5, .data⟩ (by simp) rfl)
        have s8 := slA htm 95 8 (by kernel_rfl) (hpre ⟨8, .data⟩ (by simp) rfl)
        simp only [vO16] at s5 s8
        clear htm
        refine val_now ?_ (hK () w1 (fun _ _ => rfl) hW); go_simp; rfl
       | 10, ho0 =>
        injection ho0 with ho; subst ho
        have s9 := slA htm 96 9 (by kernel_rfl) (hpre ⟨9, .data⟩ (by simp) rfl)
        simp only [vO16] at s9
        clear htm
        refine val_now ?_ (hK () w1 (fun _ _ => rfl) hW); go_simp; rfl
       | 11, ho0 =>
        injection ho0 with ho; subst ho
        have b3 : av.tmps.getD 3 undef = .pointer (some ⟨p, 0, none⟩) := slB htm 3 (by kernel_rfl)
        clear htm
        refine val_now ?_ (hK () w1 (fun _ _ => rfl) hW); go_simp; rfl
       | 12, ho0 =>
        injection ho0 with ho; subst ho
        have s11 := slA htm 98 11 (by kernel_rfl) (hpre ⟨11, .data⟩ (by simp) rfl)
        simp only [vO16] at s11
        clear htm
        have hcs := panState_calls D.s ra rb rc p w1 (Blk.chg HP hW (by simp))
        rw [St.val_eq] at hcs
        refine call_now (f := 23) (args := #[.pointer (some ⟨p, 0, none⟩)]) ?_ hcs ?_
        · go_simp
        · rintro e w2 ⟨rfl, hc⟩
          exact ⟨_, rfl, hK () w2 (fun _ _ => rfl) (hW.trans hc (by simp))⟩
       | 13, ho0 =>
        injection ho0 with ho; subst ho
        have b4 : av.tmps.getD 4 undef = .pointer (some ⟨sB, 0, none⟩) := slB htm 4 (by kernel_rfl)
        clear htm
        have c0 := (HS.chg hW (by simp)).cell' (i := 0) rfl
        have c1 := (HS.chg hW (by simp)).cell' (i := 1) rfl
        have c2 := (HS.chg hW (by simp)).cell' (i := 2) rfl
        have c3 := (HS.chg hW (by simp)).cell' (i := 3) rfl
        have c4 := (HS.chg hW (by simp)).cell' (i := 4) rfl
        have c5 := (HS.chg hW (by simp)).cell' (i := 5) rfl
        have c6 := (HS.chg hW (by simp)).cell' (i := 6) rfl
        refine val_now ?_ (hK () w1 (fun _ _ => rfl) hW); go_simp; rfl
       | 14, ho0 =>
        injection ho0 with ho; subst ho
        have s12 := slA htm 99 12 (by kernel_rfl) (hpre ⟨12, .data⟩ (by simp) rfl)
        have s13 := slA htm 100 13 (by kernel_rfl) (hpre ⟨13, .data⟩ (by simp) rfl)
        simp only [vO16] at s12 s13
        clear htm
        exact val_now (exec_neqS (X := D.s) rfl s12 s13 w1) (hK () w1 (fun _ _ => rfl) hW)
       | 15, ho0 =>
        injection ho0 with ho; subst ho
        have s10 := slA htm 97 10 (by kernel_rfl) (hpre ⟨10, .data⟩ (by simp) rfl)
        have s14 := slA htm 101 14 (by kernel_rfl) (hpre ⟨14, .data⟩ (by simp) rfl)
        simp only [vO16] at s10 s14
        clear htm
        refine val_now ?_ (hK () w1 (fun _ _ => rfl) hW); go_simp; rfl
       | 16, ho0 =>
        injection ho0 with ho; subst ho
        have s15 := slA htm 102 15 (by kernel_rfl) (hpre ⟨15, .data⟩ (by simp) rfl)
        simp only [vO16] at s15
        clear htm
        refine val_now ?_ (hK () w1 (fun _ _ => rfl) hW); go_simp; rfl
       | 17, ho0 =>
        injection ho0 with ho; subst ho
        have b9 : av.tmps.getD 9 undef = .int .i64 rn := slB htm 9 (by kernel_rfl)
        clear htm
        refine val_now ?_ (hK () w1 (fun _ _ => rfl) hW); go_simp; rfl
       | 18, ho0 =>
        injection ho0 with ho; subst ho
        have s17 := slA htm 104 17 (by kernel_rfl) (hpre ⟨17, .data⟩ (by simp) rfl)
        simp only [vO16] at s17
        clear htm
        refine val_now ?_ (hK () w1 (fun _ _ => rfl) hW)
        · cases o with
          | true =>
           have h1 : (rn != -1) = true := hon
           go_simp
           rfl
          | false =>
           have h1 : (rn != -1) = false := hon
           go_simp
           rfl
       | 19, ho0 =>
        injection ho0 with ho; subst ho
        have s18 := slA htm 105 18 (by kernel_rfl) (hpre ⟨18, .data⟩ (by simp) rfl)
        simp only [vO16] at s18
        clear htm
        refine val_now ?_ (hK () w1 (fun _ _ => rfl) hW); go_simp; rfl
       | 20, ho0 =>
        injection ho0 with ho; subst ho
        have b9 : av.tmps.getD 9 undef = .int .i64 rn := slB htm 9 (by kernel_rfl)
        clear htm
        have ot : o = true := by cases o with | false => cases hwt | true => rfl
        subst ot
        refine val_now ?_ (hK () w1 (fun _ _ => rfl) hW); go_simp; rfl
       | 21, ho0 =>
        injection ho0 with ho; subst ho
        have b6 : av.tmps.getD 6 undef = .pointer (some ⟨T, 0, none⟩) := slB htm 6 (by kernel_rfl)
        clear htm
        have ot : o = true := by cases o with | false => cases hwt | true => rfl
        subst ot
        refine val_now ?_ (hK () w1 (fun _ _ => rfl) hW); go_simp; rfl
       | 22, ho0 =>
        injection ho0 with ho; subst ho
        have s21 := slA htm 108 21 (by kernel_rfl) (hpre ⟨21, .data⟩ (by simp) rfl)
        simp only [vO16] at s21
        clear htm
        have ot : o = true := by cases o with | false => cases hwt | true => rfl
        subst ot
        simp only [cond_true] at s21
        have c0 := (HT.chg hW (by simp)).cell' (i := 0) rfl
        refine val_now ?_ (hK () w1 (fun _ _ => rfl) hW); go_simp; rfl
       | 23, ho0 =>
        injection ho0 with ho; subst ho
        have s22 := slA htm 109 22 (by kernel_rfl) (hpre ⟨22, .data⟩ (by simp) rfl)
        simp only [vO16] at s22
        clear htm
        have ot : o = true := by cases o with | false => cases hwt | true => rfl
        subst ot
        simp only [cond_true] at s22
        have hr := hrk
        refine val_now ?_ (hK () w1 (fun _ _ => rfl) hW); go_simp; rfl
       | 24, ho0 =>
        injection ho0 with ho; subst ho
        have s23 := slA htm 110 23 (by kernel_rfl) (hpre ⟨23, .data⟩ (by simp) rfl)
        simp only [vO16] at s23
        clear htm
        have ot : o = true := by cases o with | false => cases hwt | true => rfl
        subst ot
        simp only [cond_true] at s23
        have hwk := hkw
        refine val_now ?_ (hK () w1 (fun _ _ => rfl) hW); go_simp; rfl
       | 25, ho0 =>
        injection ho0 with ho; subst ho
        have s20 := slA htm 107 20 (by kernel_rfl) (hpre ⟨20, .data⟩ (by simp) rfl)
        have s24 := slA htm 111 24 (by kernel_rfl) (hpre ⟨24, .data⟩ (by simp) rfl)
        simp only [vO16] at s20 s24
        clear htm
        have ot : o = true := by cases o with | false => cases hwt | true => rfl
        subst ot
        simp only [cond_true] at s20 s24
        have hn1 := hnk rfl
        refine val_now ?_ (hK () w1 (fun _ _ => rfl) hW); go_simp; rfl
       | 26, ho0 =>
        injection ho0 with ho; subst ho
        have s19 := slA htm 106 19 (by kernel_rfl) (hpre ⟨19, .data⟩ (by simp) rfl)
        have s25 := slA htm 112 25 (by kernel_rfl) (hpre ⟨25, .data⟩ (by simp) rfl)
        simp only [vO16] at s19 s25
        clear htm
        refine val_now ?_ (hK () w1 (fun _ _ => rfl) hW); go_simp; cases o <;> rfl
       | 27, ho0 =>
        injection ho0 with ho; subst ho
        have s16 := slA htm 103 16 (by kernel_rfl) (hpre ⟨16, .data⟩ (by simp) rfl)
        have s26 := slA htm 113 26 (by kernel_rfl) (hpre ⟨26, .data⟩ (by simp) rfl)
        simp only [vO16] at s16 s26
        clear htm
        refine val_now ?_ (hK () w1 (fun _ _ => rfl) hW); go_simp; rfl
       | _ + 28, ho0 => cases ho0
      case fin =>
       intro γ' w12 hW
       rw [finG_puts, putsR_list, putsL_dst]
       simp only [List.map_cons, List.map_nil]
       rw [putsO16]
       simp only [vO16]
       have HP12 := hide (Blk.chg HP11.out hW (by simp))
       have HS12 := hide (HS11.out.chg hW (by simp))
       have HK12 := hide (HK11.out.trans hW (D := []) (by simp))
       clear hW HP11 HS11 HK11 HSA11 HSB11 hb11
       go_upto_region 7 with (fail)
       go_wp2_with fail
       exact ⟨⟨j + 1, D.s, ra, rb, rc, int_z _ (by omega), hlt, hDr, HK12, HP12, HS12⟩, meas_z hlt _ (by omega)⟩
    · have k3 : decide ((j : Int) < (n : Int)) = false := by simpa using (by omega : (n : Int) ≤ (j : Int))
      go_wp2_with fail
      refine (awake43_calls _).mono ?_
      rintro e w9 ⟨rfl, hc9⟩
      have hend := hide (HK.out.trans hc9 (D := []) (by simp))
      clear hc9 HK HP HS
      go_wp2_with fail
      go_ret
      exact ⟨rfl, hend.out⟩
end Go.Proofs.YtihgijhjhmjolaaGreatDoor.Xi
