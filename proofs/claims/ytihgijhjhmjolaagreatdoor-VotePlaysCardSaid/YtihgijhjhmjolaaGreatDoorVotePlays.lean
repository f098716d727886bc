/- VotePlays: the law's walk. -/
import Derived.Test.YtihgijhjhmjolaaGreatDoorPanelG
import Derived.Test.YtihgijhjhmjolaaGreatDoorVP19
namespace Go.Proofs.YtihgijhjhmjolaaGreatDoor.Xi
open Go Go.RowKit Go.Deep
set_option linter.unusedVariables false
theorem Threes.keep {w w' : World} {A : Option Addr} {n : Nat} (h : Threes w A n) (hc : Chg w w' []) : Threes w' A n := fun h0 => by
 obtain ⟨b, off, e, hall⟩ := h h0
 refine ⟨b, off, e, fun i hi => ?_⟩
 obtain ⟨r, v1, v2, v3, c0, c1, c2, c3, b1, b2, b3⟩ := hall i hi
 exact ⟨r, v1, v2, v3, hc.cell c0 (by simp), hc.cell c1 (by simp), hc.cell c2 (by simp), hc.cell c3 (by simp), b1.keep hc, b2.keep hc, b3.keep hc⟩
theorem not_u8 {w w' : World} {B : Nat} {t : TypeId} {cs : List Value} (hb : Blk w B t cs) (hcs : ∀ v ∈ cs, ∀ n, v ≠ .int .u8 n) {sv : Value} {S : ByteArray} (hs : Bs w sv S) (hc : Chg w w' [B]) : Bs w' sv S := by
 have hs' := bs_u8s hs
 have := hs'.chg0 hc (fun h0 A n c he => by
  subst he
  rw [u8s_length] at h0
  obtain ⟨b, o, hA, hx, _⟩ := hs'.at_ (u8s_atD _ 0 h0)
  injection hA with hA
  subst hA
  intro hm
  simp only [List.mem_singleton] at hm
  subst hm
  rw [hb.cell] at hx
  exact hcs _ (List.mem_of_getElem? hx) _ rfl)
 unfold u8s at this
 rw [List.map_map] at this
 exact this
def vV11 (p q : Nat) : Nat → Value
 | 0 => .pointer (some ⟨p, 0, none⟩)
 | 1 => .int .i64 0
 | 2 => .bool false
 | 3 => .bool false
 | 4 => .pointer (some ⟨p, 0, none⟩)
 | 5 => .agg #[.int .i32 st0.q.a.v, .int .i32 st0.q.b.v, .int .i32 st0.q.c.v, .int .i32 st0.q.d.v, .int .i64 st0.s, .int .i64 st0.f, .int .i64 st0.g]
 | 6 => .pointer (some ⟨q, 0, none⟩)
 | 7 => .pointer (some ⟨q, 0, none⟩)
 | 8 => .pointer (some ⟨q, 0, none⟩)
 | 9 => .agg #[.int .i32 st0.q.a.v, .int .i32 st0.q.b.v, .int .i32 st0.q.c.v, .int .i32 st0.q.d.v, .int .i64 st0.s, .int .i64 st0.f, .int .i64 st0.g]
 | 10 => .bool false
 | 11 => .bool false
 | _ => undef
structure WV11 (w0 : World) (p : Nat) (x : St) (a b c : Int) (L : Nat → Bool) (w : World) : Prop where
 chg : Chg w0 w [p]
 pan : Pan w p (bif L 1 then st0 else x) a b c
theorem WV11.ext {w0 : World} {p : Nat} {x : St} {a b c : Int} {L L' : Nat → Bool} {w : World} (h : WV11 w0 p x a b c L w) (e : L 1 = L' 1) : WV11 w0 p x a b c L' w :=
 ⟨h.chg, by rw [← e]; exact h.pan⟩
def vV15 (p q : Nat) (sa sb : Value) (R : PR) : Nat → Value
 | 0 => sa
 | 1 => .string R.t
 | 2 => sb
 | 3 => .string R.t
 | 4 => .bool false
 | 5 => .bool false
 | 6 => .int .i64 R.n
 | 7 => .int .i64 R.n
 | 8 => .bool false
 | 9 => .bool false
 | 10 => .bool false
 | 11 => .int .i64 R.e
 | 12 => .int .i64 R.e
 | 13 => .bool false
 | 14 => .bool false
 | 15 => .bool false
 | 16 => .pointer (some ⟨p, 0, none⟩)
 | 17 => .agg #[.int .i32 R.x.q.a.v, .int .i32 R.x.q.b.v, .int .i32 R.x.q.c.v, .int .i32 R.x.q.d.v, .int .i64 R.x.s, .int .i64 R.x.f, .int .i64 R.x.g]
 | 18 => .pointer (some ⟨q, 0, none⟩)
 | 19 => .pointer (some ⟨q, 0, none⟩)
 | 20 => .pointer (some ⟨q, 0, none⟩)
 | 21 => .agg #[.int .i32 R.x.q.a.v, .int .i32 R.x.q.b.v, .int .i32 R.x.q.c.v, .int .i32 R.x.q.d.v, .int .i64 R.x.s, .int .i64 R.x.f, .int .i64 R.x.g]
 | 22 => .bool false
 | 23 => .bool false
 | 24 => .bool false
 | 25 => .pointer (some ⟨p, 0, none⟩)
 | 26 => .agg #[.int .i64 R.a, .int .i64 R.b, .int .i64 R.c]
 | 27 => .pointer (some ⟨q, 0, none⟩)
 | 28 => .pointer (some ⟨q, 0, none⟩)
 | 29 => .pointer (some ⟨q, 7, none⟩)
 | 30 => .agg #[.int .i64 R.a, .int .i64 R.b, .int .i64 R.c]
 | 31 => .bool false
 | 32 => .bool false
 | _ => undef
theorem puts11 (v : Nat → Value) (t0 t1 t2 t3 t4 t5 t6 t7 t8 t9 t10 t11 t12 t13 t14 t15 t16 t17 t18 t19 t20 t21 t22 t23 t24 t25 t26 t27 t28 t29 t30 t31 t32 t33 t34 t35 t36 t37 t38 t39 t40 t41 t42 t43 t44 t45 t46 t47 t48 t49 t50 t51 t52 t53 t54 t55 t56 t57 t58 t59 t60 t61 t62 t63 t64 t65 t66 t67 t68 t69 t70 t71 t72 t73 t74 t75 t76 t77 t78 t79 t80 t81 t82 t83 t84 t85 t86 t87 t88 t89 t90 t91 t92 t93 t94 t95 t96 t97 t98 t99 t100 t101 t102 t103 t104 t105 t106 t107 t108 t109 t110 t111 t112 t113 t114 : Value) : putsD v (some 45 :: some 46 :: some 47 :: some 48 :: some 49 :: some 50 :: some 51 :: some 52 :: some 53 :: some 54 :: some 55 :: some 56 :: []) 0 (t0 :: t1 :: t2 :: t3 :: t4 :: t5 :: t6 :: t7 :: t8 :: t9 :: t10 :: t11 :: t12 :: t13 :: t14 :: t15 :: t16 :: t17 :: t18 :: t19 :: t20 :: t21 :: t22 :: t23 :: t24 :: t25 :: t26 :: t27 :: t28 :: t29 :: t30 :: t31 :: t32 :: t33 :: t34 :: t35 :: t36 :: t37 :: t38 :: t39 :: t40 :: t41 :: t42 :: t43 :: t44 :: t45 :: t46 :: t47 :: t48 :: t49 :: t50 :: t51 :: t52 :: t53 :: t54 :: t55 :: t56 :: t57 :: t58 :: t59 :: t60 :: t61 :: t62 :: t63 :: t64 :: t65 :: t66 :: t67 :: t68 :: t69 :: t70 :: t71 :: t72 :: t73 :: t74 :: t75 :: t76 :: t77 :: t78 :: t79 :: t80 :: t81 :: t82 :: t83 :: t84 :: t85 :: t86 :: t87 :: t88 :: t89 :: t90 :: t91 :: t92 :: t93 :: t94 :: t95 :: t96 :: t97 :: t98 :: t99 :: t100 :: t101 :: t102 :: t103 :: t104 :: t105 :: t106 :: t107 :: t108 :: t109 :: t110 :: t111 :: t112 :: t113 :: t114 :: []) = (t0 :: t1 :: t2 :: t3 :: t4 :: t5 :: t6 :: t7 :: t8 :: t9 :: t10 :: t11 :: t12 :: t13 :: t14 :: t15 :: t16 :: t17 :: t18 :: t19 :: t20 :: t21 :: t22 :: t23 :: t24 :: t25 :: t26 :: t27 :: t28 :: t29 :: t30 :: t31 :: t32 :: t33 :: t34 :: t35 :: t36 :: t37 :: t38 :: t39 :: t40 :: t41 :: t42 :: t43 :: t44 :: v 0 :: v 1 :: v 2 :: v 3 :: v 4 :: v 5 :: v 6 :: v 7 :: v 8 :: v 9 :: v 10 :: v 11 :: t57 :: t58 :: t59 :: t60 :: t61 :: t62 :: t63 :: t64 :: t65 :: t66 :: t67 :: t68 :: t69 :: t70 :: t71 :: t72 :: t73 :: t74 :: t75 :: t76 :: t77 :: t78 :: t79 :: t80 :: t81 :: t82 :: t83 :: t84 :: t85 :: t86 :: t87 :: t88 :: t89 :: t90 :: t91 :: t92 :: t93 :: t94 :: t95 :: t96 :: t97 :: t98 :: t99 :: t100 :: t101 :: t102 :: t103 :: t104 :: t105 :: t106 :: t107 :: t108 :: t109 :: t110 :: t111 :: t112 :: t113 :: t114 :: []) := by kernel_rfl
theorem puts15 (v : Nat → Value) (t0 t1 t2 t3 t4 t5 t6 t7 t8 t9 t10 t11 t12 t13 t14 t15 t16 t17 t18 t19 t20 t21 t22 t23 t24 t25 t26 t27 t28 t29 t30 t31 t32 t33 t34 t35 t36 t37 t38 t39 t40 t41 t42 t43 t44 t45 t46 t47 t48 t49 t50 t51 t52 t53 t54 t55 t56 t57 t58 t59 t60 t61 t62 t63 t64 t65 t66 t67 t68 t69 t70 t71 t72 t73 t74 t75 t76 t77 t78 t79 t80 t81 t82 t83 t84 t85 t86 t87 t88 t89 t90 t91 t92 t93 t94 t95 t96 t97 t98 t99 t100 t101 t102 t103 t104 t105 t106 t107 t108 t109 t110 t111 t112 t113 t114 : Value) : putsD v (some 81 :: some 82 :: some 83 :: some 84 :: some 85 :: some 86 :: some 87 :: some 88 :: some 89 :: some 90 :: some 91 :: some 92 :: some 93 :: some 94 :: some 95 :: some 96 :: some 97 :: some 98 :: some 99 :: some 100 :: some 101 :: some 102 :: some 103 :: some 104 :: some 105 :: some 106 :: some 107 :: some 108 :: some 109 :: some 110 :: some 111 :: some 112 :: some 113 :: []) 0 (t0 :: t1 :: t2 :: t3 :: t4 :: t5 :: t6 :: t7 :: t8 :: t9 :: t10 :: t11 :: t12 :: t13 :: t14 :: t15 :: t16 :: t17 :: t18 :: t19 :: t20 :: t21 :: t22 :: t23 :: t24 :: t25 :: t26 :: t27 :: t28 :: t29 :: t30 :: t31 :: t32 :: t33 :: t34 :: t35 :: t36 :: t37 :: t38 :: t39 :: t40 :: t41 :: t42 :: t43 :: t44 :: t45 :: t46 :: t47 :: t48 :: t49 :: t50 :: t51 :: t52 :: t53 :: t54 :: t55 :: t56 :: t57 :: t58 :: t59 :: t60 :: t61 :: t62 :: t63 :: t64 :: t65 :: t66 :: t67 :: t68 :: t69 :: t70 :: t71 :: t72 :: t73 :: t74 :: t75 :: t76 :: t77 :: t78 :: t79 :: t80 :: t81 :: t82 :: t83 :: t84 :: t85 :: t86 :: t87 :: t88 :: t89 :: t90 :: t91 :: t92 :: t93 :: t94 :: t95 :: t96 :: t97 :: t98 :: t99 :: t100 :: t101 :: t102 :: t103 :: t104 :: t105 :: t106 :: t107 :: t108 :: t109 :: t110 :: t111 :: t112 :: t113 :: t114 :: []) = (t0 :: t1 :: t2 :: t3 :: t4 :: t5 :: t6 :: t7 :: t8 :: t9 :: t10 :: t11 :: t12 :: t13 :: t14 :: t15 :: t16 :: t17 :: t18 :: t19 :: t20 :: t21 :: t22 :: t23 :: t24 :: t25 :: t26 :: t27 :: t28 :: t29 :: t30 :: t31 :: t32 :: t33 :: t34 :: t35 :: t36 :: t37 :: t38 :: t39 :: t40 :: t41 :: t42 :: t43 :: t44 :: t45 :: t46 :: t47 :: t48 :: t49 :: t50 :: t51 :: t52 :: t53 :: t54 :: t55 :: t56 :: t57 :: t58 :: t59 :: t60 :: t61 :: t62 :: t63 :: t64 :: t65 :: t66 :: t67 :: t68 :: t69 :: t70 :: t71 :: t72 :: t73 :: t74 :: t75 :: t76 :: t77 :: t78 :: t79 :: t80 :: v 0 :: v 1 :: v 2 :: v 3 :: v 4 :: v 5 :: v 6 :: v 7 :: v 8 :: v 9 :: v 10 :: v 11 :: v 12 :: v 13 :: v 14 :: v 15 :: v 16 :: v 17 :: v 18 :: v 19 :: v 20 :: v 21 :: v 22 :: v 23 :: v 24 :: v 25 :: v 26 :: v 27 :: v 28 :: v 29 :: v 30 :: v 31 :: v 32 :: t114 :: []) := by kernel_rfl
set_option maxRecDepth 100000 in
set_option maxHeartbeats 16000000 in
theorem votePlays_calls (A : Option Addr) (n c : Nat) (hm : n ≤ maxLen) (W : World) (hw : FTab W) (hT : Threes W A n) :
 Calls Tryz.prog 7 #[.slice A n c] W fun e w' => e = .returned (.bool true) ∧ Chg W w' [] := by
 have HW := hide hw
 have HT := hide hT
 replace hm := hide hm
 clear hw hT
 have hmix : Tryz.prog.follows .mixedOrders = true := by kernel_rfl
 replace hmix := hide hmix
 go_enter Tryz.func7, Tryz.ntmps7
 go_wp2_with fail
 refine (panNew_calls W).mono ?_
 rintro e w1 ⟨p, rfl, hp, hP, hc⟩
 replace hP := hide hP
 replace hc := hide hc
 go_wp2_with fail
 refine (few_calls A n c hm.out w1 (HT.out.keep hc.out)).mono ?_
 rintro e w2 ⟨⟨r, rfl⟩, rfl⟩
 cases r with
 | false =>
  go_wp2_with fail
  refine (awake43_calls _).mono ?_
  rintro e w3 ⟨rfl, hc3⟩
  replace hc3 := hide hc3
  go_wp2_with fail
  go_ret
  exact ⟨rfl, hc.out.trans hc3.out (D := []) (by simp)⟩
 | true =>
  go_wp2_with fail
  refine (rreset_calls _).mono ?_
  rintro e w3 ⟨rfl, hc3⟩
  have h0 : Chg W (w3.alloc (.cells #[.int .i32 1073741824, .int .i32 0, .int .i32 0, .int .i32 0, .int .i64 0, .int .i64 0, .int .i64 0, .int .i64 0, .int .i64 0, .int .i64 0] 52)) [] := (hc.out.trans hc3 (D := []) (by simp)).alloc _
  have p0 : Pan (w3.alloc (.cells #[.int .i32 1073741824, .int .i32 0, .int .i32 0, .int .i32 0, .int .i64 0, .int .i64 0, .int .i64 0, .int .i64 0, .int .i64 0, .int .i64 0] 52)) p st0 0 0 0 := Blk.alloc (Blk.chg hP.out hc3 (by simp)) _
  have q0 : Ran (w3.alloc (.cells #[.int .i32 1073741824, .int .i32 0, .int .i32 0, .int .i32 0, .int .i64 0, .int .i64 0, .int .i64 0, .int .i64 0, .int .i64 0, .int .i64 0] 52)) w3.heap.size st0 0 0 0 := by
   unfold Ran
   rw [show st0.q.a.v = 1073741824 by decide +kernel, show st0.q.b.v = 0 by decide +kernel, show st0.q.c.v = 0 by decide +kernel, show st0.q.d.v = 0 by decide +kernel]
   exact Blk.new w3 _ _
  have hpq : p < w3.heap.size := Nat.lt_of_lt_of_le (Blk.lt hP.out) hc3.size
  clear hc3 hP hc
  replace h0 := hide h0
  replace p0 := hide p0
  replace q0 := hide q0
  replace hpq := hide hpq
  replace hp := hide hp
  go_upto_region 5 with (fail)
  change Code.wp _ _ _ _ (w3.alloc (.cells #[.int .i32 1073741824, .int .i32 0, .int .i32 0, .int .i32 0, .int .i64 0, .int .i64 0, .int .i64 0, .int .i64 0, .int .i64 0, .int .i64 0] 52))
  generalize w3.alloc (.cells #[.int .i32 1073741824, .int .i32 0, .int .i32 0, .int .i32 0, .int .i64 0, .int .i64 0, .int .i64 0, .int .i64 0, .int .i64 0, .int .i64 0] 52) = w4 at *
  generalize w3.heap.size = q at *
  go_wp2_with fail
  go_loopw [5] (fun v wr => ∃ (j : Nat) (x : St) (a b cc : Int), v = .int .i64 j ∧ j ≤ n ∧ Hid (x.right) ∧ Hid (Chg W wr []) ∧ Hid (Pan wr p x a b cc) ∧ Hid (Ran wr q x a b cc)) (fun v _ => n - (intOf v).toNat)
  case atStart => exact ⟨0, st0, 0, 0, 0, rfl, by omega, hide st0_right, h0, p0, q0⟩
  case round =>
   obtain ⟨j, x, a, b, c', rfl, hj, hx, HK, HP, HQ⟩ := hrel
   clear h0 p0 q0
   by_cases hlt : j < n
   · have k3 : decide ((j : Int) < (n : Int)) = true := by simpa using (by omega : (j : Int) < (n : Int))
     obtain ⟨bb, off, rfl, hall⟩ := HT.out (by omega)
     obtain ⟨r, v1, v2, v3, e0, e1, e2, e3, ⟨P0, n0, m0, xs, rfl, s0, l0, t0, u0⟩, ⟨P1, n1, m1, ys, rfl, s1, l1, t1, u1⟩, ⟨P2, n2, m2, zs, rfl, s2, l2, t2, u2⟩⟩ := hall j hlt
     clear hall
     replace e0 := HK.out.cell e0 (by simp)
     replace e1 := HK.out.cell e1 (by simp)
     replace e2 := HK.out.cell e2 (by simp)
     replace e3 := HK.out.cell e3 (by simp)
     replace s0 := hide s0
     replace s1 := hide s1
     replace s2 := hide s2
     have B0 := hide (show xs.length ≤ maxLen by omega)
     have B1 := hide (show ys.length ≤ maxLen by omega)
     have B2 := hide (show zs.length ≤ maxLen by omega)
     replace u0 := hide u0
     replace u1 := hide u1
     replace u2 := hide u2
     clear l0 t0 l1 t1 l2 t2
     go_upto_region 9 with (fail)
     have hqb : q < wr.heap.size := Blk.lt HQ.out
     replace hqb := hide hqb
     have hb := Blk.new wr 54 [.bool r, .slice P0 n0 m0, .slice P1 n1 m1, .slice P2 n2 m2]
     replace HK := hide (HK.out.alloc (.cells #[.bool r, .slice P0 n0 m0, .slice P1 n1 m1, .slice P2 n2 m2] 54))
     replace HP := hide (Blk.alloc HP.out (.cells #[.bool r, .slice P0 n0 m0, .slice P1 n1 m1, .slice P2 n2 m2] 54))
     replace HQ := hide (Blk.alloc HQ.out (.cells #[.bool r, .slice P0 n0 m0, .slice P1 n1 m1, .slice P2 n2 m2] 54))
     clear e0 e1 e2 e3
     change Code.wp _ _ _ _ (wr.alloc (.cells #[.bool r, .slice P0 n0 m0, .slice P1 n1 m1, .slice P2 n2 m2] 54))
     generalize wr.alloc (.cells #[.bool r, .slice P0 n0 m0, .slice P1 n1 m1, .slice P2 n2 m2] 54) = w5 at *
     generalize wr.heap.size = T at *
     have b0 := hb.cell' (i := 0) rfl
     have b1 := hb.cell' (i := 1) rfl
     have b2 := hb.cell' (i := 2) rfl
     have b3 := hb.cell' (i := 3) rfl
     replace hb := hide hb
     cases r with
     | true =>
      go_upto_region 10 with (fail)
      go_wp2_with fail
      refine (rreset_calls _).mono ?_
      rintro e w6 ⟨rfl, hc6⟩
      have hq6 : Blk w6 q 52 [.int .i32 x.q.a.v, .int .i32 x.q.b.v, .int .i32 x.q.c.v, .int .i32 x.q.d.v, .int .i64 x.s, .int .i64 x.f, .int .i64 x.g, .int .i64 a, .int .i64 b, .int .i64 c'] := Blk.chg HQ.out hc6 (by simp)
      have HP6 := hide (Blk.chg HP.out hc6 (by simp))
      have HK6 := hide (HK.out.trans hc6 (D := []) (by simp))
      clear HP HQ HK hc6 hb b0 b1 b2 b3
      have y0 := hq6.cell' (i := 0) rfl
      have yf0 := hq6.frozen 0
      have y1 := hq6.cell' (i := 1) rfl
      have yf1 := hq6.frozen 1
      have y2 := hq6.cell' (i := 2) rfl
      have yf2 := hq6.frozen 2
      have y3 := hq6.cell' (i := 3) rfl
      have yf3 := hq6.frozen 3
      have y4 := hq6.cell' (i := 4) rfl
      have yf4 := hq6.frozen 4
      have y5 := hq6.cell' (i := 5) rfl
      have yf5 := hq6.frozen 5
      have y6 := hq6.cell' (i := 6) rfl
      have yf6 := hq6.frozen 6
      replace hq6 := hide hq6
      go_upto_region 11 with (fail)
      clear y0 yf0 y1 yf1 y2 yf2 y3 yf3 y4 yf4 y5 yf5 y6 yf6
      change Code.wp _ _ _ _ (put7 w6 q (.int .i32 1073741824) (.int .i32 0) (.int .i32 0) (.int .i32 0) (.int .i64 0) (.int .i64 0) (.int .i64 0))
      have hc7 := put7_chg w6 q (.int .i32 1073741824) (.int .i32 0) (.int .i32 0) (.int .i32 0) (.int .i64 0) (.int .i64 0) (.int .i64 0)
      have HQ7 : Ran (put7 w6 q (.int .i32 1073741824) (.int .i32 0) (.int .i32 0) (.int .i32 0) (.int .i64 0) (.int .i64 0) (.int .i64 0)) q st0 a b c' := by
       unfold Ran
       rw [show st0.q.a.v = 1073741824 by decide +kernel, show st0.q.b.v = 0 by decide +kernel, show st0.q.c.v = 0 by decide +kernel, show st0.q.d.v = 0 by decide +kernel]
       exact put7_more hq6.out (.int .i32 1073741824) (.int .i32 0) (.int .i32 0) (.int .i32 0) (.int .i64 0) (.int .i64 0) (.int .i64 0)
      have HP7 := hide (Blk.chg HP6.out hc7 (by have := hpq.out; simp; omega))
      have HK7 := hide (HK6.out.trans hc7 (D := []) (fun k hk => by have := hp.out; have := hpq.out; simp at hk; omega))
      generalize put7 w6 q (.int .i32 1073741824) (.int .i32 0) (.int .i32 0) (.int .i32 0) (.int .i64 0) (.int .i64 0) (.int .i64 0) = w7 at *
      replace HQ7 := hide HQ7
      clear hc7 hq6 HP6 HK6
      refine wp_regionJ hmix.out _ _ (fun _ => vV11 p q) (fun (_ : Unit) L w => WV11 w7 p x a b c' L w) () (by kernel_rfl) [(3, false)] (by kernel_rfl) (fun p hp γ => by simp at hp; subst hp; rfl) (by kernel_rfl) ?step ?start ?fin ?ext
      case start => exact ⟨(Chg.refl w7 _).drew, Blk.chg HP7.out (Chg.refl w7 []).drew (by simp)⟩
      case ext => exact fun γ L L' w' h hw => hw.ext (by rw [h 1 (by decide)])
      case step =>
       have HQ : Blk w7 q 52 [.int .i32 st0.q.a.v, .int .i32 st0.q.b.v, .int .i32 st0.q.c.v, .int .i32 st0.q.d.v, .int .i64 st0.s, .int .i64 st0.f, .int .i64 st0.g, .int .i64 a, .int .i64 b, .int .i64 c'] := HQ7.out
       have hpq := hpq.out
       intro i o ho L av w1 γ hdn htm hW hL hpre K Q hK
       match i, ho with
       | 0, ho =>
        injection ho with ho; subst ho
        have b3 : av.tmps.getD 3 undef = .pointer (some ⟨p, 0, none⟩) := slB htm 3 (by kernel_rfl)
        clear htm
        refine val_now ?_ (hK () w1 (fun _ _ => rfl) (hW.ext (by simp))); go_simp; rfl
       | 1, ho =>
        injection ho with ho; subst ho
        have s0 := slA htm 45 0 (by kernel_rfl) (hpre ⟨0, .data⟩ (by simp) rfl)
        simp only [vV11] at s0
        clear htm
        have hb := hW.pan
        rw [hL] at hb
        simp only [cond_false] at hb
        refine call_now (f := 22) (args := #[.pointer (some ⟨p, 0, none⟩)]) ?_ (panReset_calls x a b c' p w1 hb) ?_
        · go_simp
        · rintro e w2 ⟨rfl, hpn, hc⟩
          refine ⟨_, rfl, hK () w2 (fun _ _ => rfl) ⟨hW.chg.trans hc (fun k hk => .inl hk), ?_⟩⟩
          simp only [if_true, cond_true]
          exact hpn
       | 2, ho =>
        injection ho with ho; subst ho
        have s1 := slA htm 46 1 (by kernel_rfl) (hpre ⟨1, .data⟩ (by simp) rfl)
        simp only [vV11] at s1
        clear htm
        refine val_now ?_ (hK () w1 (fun _ _ => rfl) (hW.ext (by simp))); go_simp; rfl
       | 3, ho =>
        injection ho with ho; subst ho
        have s2 := slA htm 47 2 (by kernel_rfl) (hpre ⟨2, .data⟩ (by simp) rfl)
        simp only [vV11] at s2
        clear htm
        refine val_now ?_ (hK () w1 (fun _ _ => rfl) (hW.ext (by simp))); go_simp; rfl
       | 4, ho =>
        injection ho with ho; subst ho
        have b3 : av.tmps.getD 3 undef = .pointer (some ⟨p, 0, none⟩) := slB htm 3 (by kernel_rfl)
        clear htm
        refine val_now ?_ (hK () w1 (fun _ _ => rfl) (hW.ext (by simp))); go_simp; rfl
       | 5, ho =>
        injection ho with ho; subst ho
        have s4 := slA htm 49 4 (by kernel_rfl) (hpre ⟨4, .data⟩ (by simp) rfl)
        simp only [vV11] at s4
        clear htm
        have l3 := hpre ⟨3, .chain⟩ (by simp) rfl
        have l1 : L 1 = true := hdn 3 _ rfl l3 ⟨1, .chain⟩ (by simp) rfl
        have hb := hW.pan
        rw [l1] at hb
        simp only [cond_true] at hb
        have hcs := panState_calls st0 a b c' p w1 hb
        rw [St.val_eq] at hcs
        refine call_now (f := 23) (args := #[.pointer (some ⟨p, 0, none⟩)]) ?_ hcs ?_
        · go_simp
        · rintro e w2 ⟨rfl, hc⟩
          exact ⟨_, rfl, hK () w2 (fun _ _ => rfl) (WV11.ext (L := L) ⟨hW.chg.trans hc (by simp), Blk.chg hW.pan hc (by simp)⟩ (by simp))⟩
       | 6, ho =>
        injection ho with ho; subst ho
        have b4 : av.tmps.getD 4 undef = .pointer (some ⟨q, 0, none⟩) := slB htm 4 (by kernel_rfl)
        clear htm
        refine val_now ?_ (hK () w1 (fun _ _ => rfl) (hW.ext (by simp))); go_simp; rfl
       | 7, ho =>
        injection ho with ho; subst ho
        have s6 := slA htm 51 6 (by kernel_rfl) (hpre ⟨6, .data⟩ (by simp) rfl)
        simp only [vV11] at s6
        clear htm
        refine val_now ?_ (hK () w1 (fun _ _ => rfl) (hW.ext (by simp))); go_simp; rfl
       | 8, ho =>
        injection ho with ho; subst ho
        have s7 := slA htm 52 7 (by kernel_rfl) (hpre ⟨7, .data⟩ (by simp) rfl)
        simp only [vV11] at s7
        clear htm
        refine val_now ?_ (hK () w1 (fun _ _ => rfl) (hW.ext (by simp))); go_simp; rfl
       | 9, ho =>
        injection ho with ho; subst ho
        have s8 := slA htm 53 8 (by kernel_rfl) (hpre ⟨8, .data⟩ (by simp) rfl)
        simp only [vV11] at s8
        clear htm
        have c0 := (Blk.chg HQ hW.chg (by simp; omega)).cell' (i := 0) rfl
        have c1 := (Blk.chg HQ hW.chg (by simp; omega)).cell' (i := 1) rfl
        have c2 := (Blk.chg HQ hW.chg (by simp; omega)).cell' (i := 2) rfl
        have c3 := (Blk.chg HQ hW.chg (by simp; omega)).cell' (i := 3) rfl
        have c4 := (Blk.chg HQ hW.chg (by simp; omega)).cell' (i := 4) rfl
        have c5 := (Blk.chg HQ hW.chg (by simp; omega)).cell' (i := 5) rfl
        have c6 := (Blk.chg HQ hW.chg (by simp; omega)).cell' (i := 6) rfl
        refine val_now ?_ (hK () w1 (fun _ _ => rfl) (hW.ext (by simp))); go_simp; rfl
       | 10, ho =>
        injection ho with ho; subst ho
        have s5 := slA htm 50 5 (by kernel_rfl) (hpre ⟨5, .data⟩ (by simp) rfl)
        have s9 := slA htm 54 9 (by kernel_rfl) (hpre ⟨9, .data⟩ (by simp) rfl)
        simp only [vV11] at s5 s9
        clear htm
        exact val_now (exec_neqS (X := st0) rfl s5 s9 w1) (hK () w1 (fun _ _ => rfl) (hW.ext (by simp)))
       | 11, ho =>
        injection ho with ho; subst ho
        have s3 := slA htm 48 3 (by kernel_rfl) (hpre ⟨3, .data⟩ (by simp) rfl)
        have s10 := slA htm 55 10 (by kernel_rfl) (hpre ⟨10, .data⟩ (by simp) rfl)
        simp only [vV11] at s3 s10
        clear htm
        refine val_now ?_ (hK () w1 (fun _ _ => rfl) (hW.ext (by simp))); go_simp; rfl
       | _ + 12, ho => cases ho
      case fin =>
       intro γ w8 hW
       rw [finG_puts, putsR_list, putsL_dst]
       simp only [List.map_cons, List.map_nil]
       rw [puts11]
       simp only [vV11]
       have HP8 := hide hW.pan
       have HQ8 := hide (Blk.chg HQ7.out hW.chg (by have := hpq.out; simp; omega))
       have HK8 := hide (HK7.out.trans hW.chg (D := []) (fun k hk => by have := hp.out; simp at hk; omega))
       clear hW HP7 HQ7 HK7
       go_upto_region 7 with (fail)
       go_wp2_with fail
       exact ⟨⟨j + 1, st0, a, b, c', int_z _ (w_incM hlt hm.out), hlt, hide st0_right, HK8, HP8, HQ8⟩, meas_z hlt _ (w_incM hlt hm.out)⟩
     | false =>
      go_wp2_with fail
      refine (panFeed_calls x a b c' p (an x xs) (an x ys) (an x zs) P0 P1 P2 n0 n1 n2 m0 m1 m2 xs ys zs w5 (HW.out.chg HK.out (by simp)) HP.out (s0.out.keep HK.out) (s1.out.keep HK.out) (s2.out.keep HK.out)
       (fun w hw hs => plane x (right_64 hx.out) xs u0.out B0.out _ w hw hs) (fun w hw hs => plane x (right_64 hx.out) ys u1.out B1.out _ w hw hs) (fun w hw hs => plane x (right_64 hx.out) zs u2.out B2.out _ w hw hs)).mono ?_
      rintro e w6 ⟨sa, rfl, hsa, hP6, hc6⟩
      have HP6 := hide hP6
      have HSA := hide hsa
      have HQ6 := hide (Blk.chg HQ.out hc6 (by have := hpq.out; simp; omega))
      have HK6 := hide (HK.out.trans hc6 (D := []) (fun k hk => by have := hp.out; simp at hk; omega))
      have hb6 := hb.out.chg hc6 (by have := hqb.out; have := hpq.out; simp; omega)
      clear HP HQ HK hc6 hb b0 b1 b2 b3 hP6 hsa
      have b0 := hb6.cell' (i := 0) rfl
      have b1 := hb6.cell' (i := 1) rfl
      have b2 := hb6.cell' (i := 2) rfl
      have b3 := hb6.cell' (i := 3) rfl
      clear hb6
      go_wp2_with fail
      refine (ranFeed_calls x a b c' q (an x xs) (an x ys) (an x zs) P0 P1 P2 n0 n1 n2 m0 m1 m2 xs ys zs w6 (HW.out.chg HK6.out (by simp)) HQ6.out (s0.out.keep HK6.out) (s1.out.keep HK6.out) (s2.out.keep HK6.out)
       (fun w hw hs => rlane x (right_64 hx.out) xs u0.out B0.out _ w hw hs) (fun w hw hs => rlane x (right_64 hx.out) ys u1.out B1.out _ w hw hs) (fun w hw hs => rlane x (right_64 hx.out) zs u2.out B2.out _ w hw hs)).mono ?_
      have hR := hide (panR_right hx.out a b c' (an_right hx.out xs) (an_right hx.out ys) (C := an x zs))
      generalize panR x a b c' (an x xs) (an x ys) (an x zs) = R at *
      rintro e w7 ⟨sb, rfl, hsb, hQ7, hc7⟩
      have HQ7 := hide hQ7
      have HSB7 := hide hsb
      have HSA7 := hide (not_u8 HQ6.out (by intro v hv m; simp only [List.mem_cons, List.not_mem_nil, or_false] at hv; rcases hv with rfl | rfl | rfl | rfl | rfl | rfl | rfl | rfl | rfl | rfl <;> simp) HSA.out hc7)
      have HP7 := hide (Blk.chg HP6.out hc7 (by have := hpq.out; simp; omega))
      have HK7 := hide (HK6.out.trans hc7 (D := []) (fun k hk => by have := hp.out; have := hpq.out; simp at hk; omega))
      clear HP6 HQ6 HK6 hc7 b0 b1 b2 b3 hQ7 hsb HSA
      go_upto_region 15 with (fail)
      refine wp_regionJ hmix.out _ _ (fun _ => vV15 p q sa sb R) (fun (_ : Unit) (_ : Nat → Bool) w => Chg w7 w []) () (by kernel_rfl) [(5, false), (10, false), (15, false), (24, false)] (by kernel_rfl) (fun p hp γ => by simp at hp; rcases hp with rfl | rfl | rfl | rfl <;> rfl) (by kernel_rfl) ?step ?start ?fin ?ext
      case start => exact (Chg.refl w7 _).drew
      case ext => exact fun γ L L' w' h hw => hw
      case step =>
       have HQ : Blk w7 q 52 [.int .i32 R.x.q.a.v, .int .i32 R.x.q.b.v, .int .i32 R.x.q.c.v, .int .i32 R.x.q.d.v, .int .i64 R.x.s, .int .i64 R.x.f, .int .i64 R.x.g, .int .i64 R.a, .int .i64 R.b, .int .i64 R.c] := HQ7.out
       have HP : Pan w7 p R.x R.a R.b R.c := HP7.out
       have HSA := HSA7.out
       have HSB := HSB7.out
       intro i o ho L av w1 γ hdn htm hW hL hpre K Q hK
       match i, ho with
       | 0, ho =>
        injection ho with ho; subst ho
        have b7 : av.tmps.getD 7 undef = sa := slB htm 7 (by kernel_rfl)
        clear htm
        refine val_now ?_ (hK () w1 (fun _ _ => rfl) hW); go_simp; rfl
       | 1, ho =>
        injection ho with ho; subst ho
        have s0 := slA htm 81 0 (by kernel_rfl) (hpre ⟨0, .data⟩ (by simp) rfl)
        simp only [vV15] at s0
        clear htm
        have cx := conv_str (HSA.chg hW)
        refine val_now ?_ (hK () w1 (fun _ _ => rfl) hW); go_simp; rfl
       | 2, ho =>
        injection ho with ho; subst ho
        have b10 : av.tmps.getD 10 undef = sb := slB htm 10 (by kernel_rfl)
        clear htm
        refine val_now ?_ (hK () w1 (fun _ _ => rfl) hW); go_simp; rfl
       | 3, ho =>
        injection ho with ho; subst ho
        have s2 := slA htm 83 2 (by kernel_rfl) (hpre ⟨2, .data⟩ (by simp) rfl)
        simp only [vV15] at s2
        clear htm
        have cx := conv_str (HSB.chg hW)
        refine val_now ?_ (hK () w1 (fun _ _ => rfl) hW); go_simp; rfl
       | 4, ho =>
        injection ho with ho; subst ho
        have s1 := slA htm 82 1 (by kernel_rfl) (hpre ⟨1, .data⟩ (by simp) rfl)
        have s3 := slA htm 84 3 (by kernel_rfl) (hpre ⟨3, .data⟩ (by simp) rfl)
        simp only [vV15] at s1 s3
        clear htm
        refine val_now ?_ (hK () w1 (fun _ _ => rfl) hW); go_simp; rfl
       | 5, ho =>
        injection ho with ho; subst ho
        have s4 := slA htm 85 4 (by kernel_rfl) (hpre ⟨4, .data⟩ (by simp) rfl)
        simp only [vV15] at s4
        clear htm
        refine val_now ?_ (hK () w1 (fun _ _ => rfl) hW); go_simp; rfl
       | 6, ho =>
        injection ho with ho; subst ho
        have b8 : av.tmps.getD 8 undef = .int .i64 R.n := slB htm 8 (by kernel_rfl)
        clear htm
        refine val_now ?_ (hK () w1 (fun _ _ => rfl) hW); go_simp; rfl
       | 7, ho =>
        injection ho with ho; subst ho
        have b11 : av.tmps.getD 11 undef = .int .i64 R.n := slB htm 11 (by kernel_rfl)
        clear htm
        refine val_now ?_ (hK () w1 (fun _ _ => rfl) hW); go_simp; rfl
       | 8, ho =>
        injection ho with ho; subst ho
        have s6 := slA htm 87 6 (by kernel_rfl) (hpre ⟨6, .data⟩ (by simp) rfl)
        have s7 := slA htm 88 7 (by kernel_rfl) (hpre ⟨7, .data⟩ (by simp) rfl)
        simp only [vV15] at s6 s7
        clear htm
        refine val_now ?_ (hK () w1 (fun _ _ => rfl) hW); go_simp; rfl
       | 9, ho =>
        injection ho with ho; subst ho
        have s5 := slA htm 86 5 (by kernel_rfl) (hpre ⟨5, .data⟩ (by simp) rfl)
        have s8 := slA htm 89 8 (by kernel_rfl) (hpre ⟨8, .data⟩ (by simp) rfl)
        simp only [vV15] at s5 s8
        clear htm
        refine val_now ?_ (hK () w1 (fun _ _ => rfl) hW); go_simp; rfl
       | 10, ho =>
        injection ho with ho; subst ho
        have s9 := slA htm 90 9 (by kernel_rfl) (hpre ⟨9, .data⟩ (by simp) rfl)
        simp only [vV15] at s9
        clear htm
        refine val_now ?_ (hK () w1 (fun _ _ => rfl) hW); go_simp; rfl
       | 11, ho =>
        injection ho with ho; subst ho
        have b9 : av.tmps.getD 9 undef = .int .i64 R.e := slB htm 9 (by kernel_rfl)
        clear htm
        refine val_now ?_ (hK () w1 (fun _ _ => rfl) hW); go_simp; rfl
       | 12, ho =>
        injection ho with ho; subst ho
        have b12 : av.tmps.getD 12 undef = .int .i64 R.e := slB htm 12 (by kernel_rfl)
        clear htm
        refine val_now ?_ (hK () w1 (fun _ _ => rfl) hW); go_simp; rfl
       | 13, ho =>
        injection ho with ho; subst ho
        have s11 := slA htm 92 11 (by kernel_rfl) (hpre ⟨11, .data⟩ (by simp) rfl)
        have s12 := slA htm 93 12 (by kernel_rfl) (hpre ⟨12, .data⟩ (by simp) rfl)
        simp only [vV15] at s11 s12
        clear htm
        refine val_now ?_ (hK () w1 (fun _ _ => rfl) hW); go_simp; rfl
       | 14, ho =>
        injection ho with ho; subst ho
        have s10 := slA htm 91 10 (by kernel_rfl) (hpre ⟨10, .data⟩ (by simp) rfl)
        have s13 := slA htm 94 13 (by kernel_rfl) (hpre ⟨13, .data⟩ (by simp) rfl)
        simp only [vV15] at s10 s13
        clear htm
        refine val_now ?_ (hK () w1 (fun _ _ => rfl) hW); go_simp; rfl
       | 15, ho =>
        injection ho with ho; subst ho
        have s14 := slA htm 95 14 (by kernel_rfl) (hpre ⟨14, .data⟩ (by simp) rfl)
        simp only [vV15] at s14
        clear htm
        refine val_now ?_ (hK () w1 (fun _ _ => rfl) hW); go_simp; rfl
       | 16, ho =>
        injection ho with ho; subst ho
        have b3 : av.tmps.getD 3 undef = .pointer (some ⟨p, 0, none⟩) := slB htm 3 (by kernel_rfl)
        clear htm
        refine val_now ?_ (hK () w1 (fun _ _ => rfl) hW); go_simp; rfl
       | 17, ho =>
        injection ho with ho; subst ho
        have s16 := slA htm 97 16 (by kernel_rfl) (hpre ⟨16, .data⟩ (by simp) rfl)
        simp only [vV15] at s16
        clear htm
        have hcs := panState_calls R.x R.a R.b R.c p w1 (Blk.chg HP hW (by simp))
        rw [St.val_eq] at hcs
        refine call_now (f := 23) (args := #[.pointer (some ⟨p, 0, none⟩)]) ?_ hcs ?_
        · go_simp
        · rintro e w2 ⟨rfl, hc⟩
          exact ⟨_, rfl, hK () w2 (fun _ _ => rfl) (hW.trans hc (by simp))⟩
       | 18, ho =>
        injection ho with ho; subst ho
        have b4 : av.tmps.getD 4 undef = .pointer (some ⟨q, 0, none⟩) := slB htm 4 (by kernel_rfl)
        clear htm
        refine val_now ?_ (hK () w1 (fun _ _ => rfl) hW); go_simp; rfl
       | 19, ho =>
        injection ho with ho; subst ho
        have s18 := slA htm 99 18 (by kernel_rfl) (hpre ⟨18, .data⟩ (by simp) rfl)
        simp only [vV15] at s18
        clear htm
        refine val_now ?_ (hK () w1 (fun _ _ => rfl) hW); go_simp; rfl
       | 20, ho =>
        injection ho with ho; subst ho
        have s19 := slA htm 100 19 (by kernel_rfl) (hpre ⟨19, .data⟩ (by simp) rfl)
        simp only [vV15] at s19
        clear htm
        refine val_now ?_ (hK () w1 (fun _ _ => rfl) hW); go_simp; rfl
       | 21, ho =>
        injection ho with ho; subst ho
        have s20 := slA htm 101 20 (by kernel_rfl) (hpre ⟨20, .data⟩ (by simp) rfl)
        simp only [vV15] at s20
        clear htm
        have c0 := (Blk.chg HQ hW (by simp)).cell' (i := 0) rfl
        have c1 := (Blk.chg HQ hW (by simp)).cell' (i := 1) rfl
        have c2 := (Blk.chg HQ hW (by simp)).cell' (i := 2) rfl
        have c3 := (Blk.chg HQ hW (by simp)).cell' (i := 3) rfl
        have c4 := (Blk.chg HQ hW (by simp)).cell' (i := 4) rfl
        have c5 := (Blk.chg HQ hW (by simp)).cell' (i := 5) rfl
        have c6 := (Blk.chg HQ hW (by simp)).cell' (i := 6) rfl
        refine val_now ?_ (hK () w1 (fun _ _ => rfl) hW); go_simp; rfl
       | 22, ho =>
        injection ho with ho; subst ho
        have s17 := slA htm 98 17 (by kernel_rfl) (hpre ⟨17, .data⟩ (by simp) rfl)
        have s21 := slA htm 102 21 (by kernel_rfl) (hpre ⟨21, .data⟩ (by simp) rfl)
        simp only [vV15] at s17 s21
        clear htm
        exact val_now (exec_neqS (X := R.x) rfl s17 s21 w1) (hK () w1 (fun _ _ => rfl) (hW.trans (Chg.refl w1 []) (by simp)))
       | 23, ho =>
        injection ho with ho; subst ho
        have s15 := slA htm 96 15 (by kernel_rfl) (hpre ⟨15, .data⟩ (by simp) rfl)
        have s22 := slA htm 103 22 (by kernel_rfl) (hpre ⟨22, .data⟩ (by simp) rfl)
        simp only [vV15] at s15 s22
        clear htm
        refine val_now ?_ (hK () w1 (fun _ _ => rfl) hW); go_simp; rfl
       | 24, ho =>
        injection ho with ho; subst ho
        have s23 := slA htm 104 23 (by kernel_rfl) (hpre ⟨23, .data⟩ (by simp) rfl)
        simp only [vV15] at s23
        clear htm
        refine val_now ?_ (hK () w1 (fun _ _ => rfl) hW); go_simp; rfl
       | 25, ho =>
        injection ho with ho; subst ho
        have b3 : av.tmps.getD 3 undef = .pointer (some ⟨p, 0, none⟩) := slB htm 3 (by kernel_rfl)
        clear htm
        refine val_now ?_ (hK () w1 (fun _ _ => rfl) hW); go_simp; rfl
       | 26, ho =>
        injection ho with ho; subst ho
        have s25 := slA htm 106 25 (by kernel_rfl) (hpre ⟨25, .data⟩ (by simp) rfl)
        simp only [vV15] at s25
        clear htm
        refine call_now (f := 26) (args := #[.pointer (some ⟨p, 0, none⟩)]) ?_ (panOdd_calls R.x R.a R.b R.c p w1 (Blk.chg HP hW (by simp))) ?_
        · go_simp
        · rintro e w2 ⟨rfl, hc⟩
          exact ⟨_, rfl, hK () w2 (fun _ _ => rfl) (hW.trans hc (by simp))⟩
       | 27, ho =>
        injection ho with ho; subst ho
        have b4 : av.tmps.getD 4 undef = .pointer (some ⟨q, 0, none⟩) := slB htm 4 (by kernel_rfl)
        clear htm
        refine val_now ?_ (hK () w1 (fun _ _ => rfl) hW); go_simp; rfl
       | 28, ho =>
        injection ho with ho; subst ho
        have s27 := slA htm 108 27 (by kernel_rfl) (hpre ⟨27, .data⟩ (by simp) rfl)
        simp only [vV15] at s27
        clear htm
        refine val_now ?_ (hK () w1 (fun _ _ => rfl) hW); go_simp; rfl
       | 29, ho =>
        injection ho with ho; subst ho
        have s28 := slA htm 109 28 (by kernel_rfl) (hpre ⟨28, .data⟩ (by simp) rfl)
        simp only [vV15] at s28
        clear htm
        refine val_now ?_ (hK () w1 (fun _ _ => rfl) hW); go_simp; rfl
       | 30, ho =>
        injection ho with ho; subst ho
        have s29 := slA htm 110 29 (by kernel_rfl) (hpre ⟨29, .data⟩ (by simp) rfl)
        simp only [vV15] at s29
        clear htm
        have c7 := (Blk.chg HQ hW (by simp)).cell' (i := 7) rfl
        have c8 := (Blk.chg HQ hW (by simp)).cell' (i := 8) rfl
        have c9 := (Blk.chg HQ hW (by simp)).cell' (i := 9) rfl
        refine val_now ?_ (hK () w1 (fun _ _ => rfl) hW); go_simp; rfl
       | 31, ho =>
        injection ho with ho; subst ho
        have s26 := slA htm 107 26 (by kernel_rfl) (hpre ⟨26, .data⟩ (by simp) rfl)
        have s30 := slA htm 111 30 (by kernel_rfl) (hpre ⟨30, .data⟩ (by simp) rfl)
        simp only [vV15] at s26 s30
        clear htm
        exact val_now (exec_neq3 (p := R.a) (q := R.b) (r := R.c) rfl s26 s30 w1) (hK () w1 (fun _ _ => rfl) (hW.trans (Chg.refl w1 []) (by simp)))
       | 32, ho =>
        injection ho with ho; subst ho
        have s24 := slA htm 105 24 (by kernel_rfl) (hpre ⟨24, .data⟩ (by simp) rfl)
        have s31 := slA htm 112 31 (by kernel_rfl) (hpre ⟨31, .data⟩ (by simp) rfl)
        simp only [vV15] at s24 s31
        clear htm
        refine val_now ?_ (hK () w1 (fun _ _ => rfl) hW); go_simp; rfl
       | _ + 33, ho => cases ho
      case fin =>
       intro γ w8 hW
       rw [finG_puts, putsR_list, putsL_dst]
       simp only [List.map_cons, List.map_nil]
       rw [puts15]
       simp only [vV15]
       have HP8 := hide (Blk.chg HP7.out hW (by simp))
       have HQ8 := hide (Blk.chg HQ7.out hW (by simp))
       have HK8 := hide (HK7.out.trans hW (D := []) (by simp))
       clear hW HP7 HQ7 HK7 HSA7 HSB7
       go_upto_region 7 with (fail)
       go_wp2_with fail
       exact ⟨⟨j + 1, R.x, R.a, R.b, R.c, int_z _ (w_incM hlt hm.out), hlt, hR, HK8, HP8, HQ8⟩, meas_z hlt _ (w_incM hlt hm.out)⟩
   · have k3 : decide ((j : Int) < (n : Int)) = false := by simpa using (by omega : (n : Int) ≤ (j : Int))
     go_wp2_with fail
     refine (awake43_calls _).mono ?_
     rintro e w9 ⟨rfl, hc9⟩
     have hend := hide (HK.out.trans hc9 (D := []) (by simp))
     clear hc9 HK HP HQ
     go_wp2_with fail
     go_ret
     exact ⟨rfl, hend.out⟩
end Go.Proofs.YtihgijhjhmjolaaGreatDoor.Xi
