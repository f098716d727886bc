/- The core: lui, what reckons. -/
import Derived.Test.YtjfnpokebaagmaaGreatDoorCoreC
import Derived.StillTailTactics
import Derived.Deep.Cut
import Derived.Test.YtjfnpokebaagmaaGreatDoorBL3
namespace Go.Proofs.YtjfnpokebaagmaaGreatDoor
open Go Go.RowKit Go.Deep Go.Maps Go.Proofs.YtjfnpokebaagmaaGreatDoor.Xi
set_option linter.unusedVariables false
attribute [local go_sem] Oper.semAt_some
set_option maxRecDepth 100000 in
set_option maxHeartbeats 1000000 in
theorem does_lui {w : World} {c : Nat} {bp cv mv : Value} {code : List (Ins5 × Bool)} {s : CS} (h : CB w c bp cv mv code s) (d : Nat) (n : Int) (hd : d < 32) (hn1 : 0 ≤ n) (hn2 : n ≤ 65535) (hm : s.marks.length ≤ 2000000) :
 Calls Tryz.prog 61 #[.pointer (some ⟨c, 0, none⟩), insVal ⟨33, d, 0, 0, n⟩] w fun e w' => (∃ v, e = .returned v) ∧ CoreP (onC (putC s d (wrap32 (n * 65536))) 1) c bp cv mv code w w' := by
 have H := hide h
 have HM := hide hm
 have hca := h.blk.cell' (cc_reg h.reg 0 (by decide))
 have hlt := h.blk.lt
 generalize s.regs.getD 0 0 = ra at *
 clear h hm
 unfold insVal
 go_enter Tryz.func61, Tryz.ntmps61
 go_wp2
 go_quiet (fail)
 go_wp2_with fail
 go_at_call 78
 have hc0 : Chg w ((w.alloc (.cells #[.int .i64 33, .int .i64 d, .int .i64 0, .int .i64 0, .int .i64 n] 25)).drewN nq) [] := ((Chg.refl w []).alloc _).drewN nq
 have HC0 := hide hc0
 have HP := hide (put_calls (H.out.chg hc0 (by simp)) d hd (wrap32 (n * 65536)))
 have hb5 : Blk ((w.alloc (.cells #[.int .i64 33, .int .i64 d, .int .i64 0, .int .i64 0, .int .i64 n] 25)).drewN nq) w.heap.size 25 [.int .i64 33, .int .i64 d, .int .i64 0, .int .i64 0, .int .i64 n] := (Blk.new w 25 [.int .i64 33, .int .i64 d, .int .i64 0, .int .i64 0, .int .i64 n]).drewN nq
 have HB5 := hide hb5
 have HLT := hide hlt
 clear hc0 hb5
 refine HP.out.mono ?_
 rintro e w1 ⟨⟨v, rfl⟩, hc1, mv1, hm1, hb1⟩
 have HO := hide (on_calls hb1 1 (by rw [putC_marks]; exact HM.out))
 have HC1 := hide hc1
 have HM1 := hide hm1
 clear hc1 hm1 hb1 HP
 go_wp2_with fail
 go_at_call 79
 refine HO.out.mono ?_
 rintro e w2 ⟨⟨v2, rfl⟩, hp2⟩
 have HP2 := hide hp2
 clear hp2
 go_wp2
 refine bodyPost_end (results_none rfl _ _ _) rfl ?_
 exact ⟨⟨_, rfl⟩, CoreP.alloc HC0.out (CoreP.step HC1.out HM1.out HP2.out)⟩
def vC4 (ia c b : Nat) (op ra rb x : Int) : Nat → Value
 | 0 => .pointer (some ⟨ia, 0, none⟩)
 | 1 => .int .i64 op
 | 2 => .int .i32 ra
 | 3 => .pointer (some ⟨c, 0, none⟩)
 | 4 => .pointer (some ⟨ia, 3, none⟩)
 | 5 => .int .i64 b
 | 6 => .pointer (some ⟨c, 0, none⟩)
 | 7 => .pointer (some ⟨c, 2, none⟩)
 | 8 => .pointer (some ⟨c, 2 + b, none⟩)
 | 9 => .int .i32 rb
 | 10 => .tuple #[.int .i32 x, .bool true]
 | 11 => .tuple #[.int .i32 x, .bool true]
 | 12 => .int .i32 x
 | 13 => .bool true
 | 14 => .int .i32 x
 | 15 => .bool true
 | _ => undef
theorem putsC4 (v : Nat → Value) (t0 t1 t2 t3 t4 t5 t6 t7 t8 t9 t10 t11 t12 t13 t14 t15 t16 t17 t18 t19 t20 t21 t22 t23 t24 t25 t26 t27 t28 t29 t30 t31 t32 t33 t34 t35 t36 t37 t38 t39 t40 t41 t42 t43 t44 t45 t46 t47 t48 t49 t50 t51 t52 t53 t54 t55 t56 t57 t58 t59 t60 t61 t62 t63 t64 t65 t66 t67 t68 t69 t70 t71 t72 t73 t74 t75 t76 t77 t78 t79 t80 t81 t82 t83 t84 t85 t86 t87 t88 t89 t90 t91 t92 t93 t94 t95 t96 t97 t98 t99 t100 t101 t102 t103 t104 t105 : Value) : putsD v (some 22 :: some 23 :: some 24 :: some 25 :: some 26 :: some 27 :: some 28 :: some 29 :: some 30 :: some 31 :: some 32 :: some 21 :: some 33 :: some 34 :: some 5 :: some 6 :: []) 0 (t0 :: t1 :: t2 :: t3 :: t4 :: t5 :: t6 :: t7 :: t8 :: t9 :: t10 :: t11 :: t12 :: t13 :: t14 :: t15 :: t16 :: t17 :: t18 :: t19 :: t20 :: t21 :: t22 :: t23 :: t24 :: t25 :: t26 :: t27 :: t28 :: t29 :: t30 :: t31 :: t32 :: t33 :: t34 :: t35 :: t36 :: t37 :: t38 :: t39 :: t40 :: t41 :: t42 :: t43 :: t44 :: t45 :: t46 :: t47 :: t48 :: t49 :: t50 :: t51 :: t52 :: t53 :: t54 :: t55 :: t56 :: t57 :: t58 :: t59 :: t60 :: t61 :: t62 :: t63 :: t64 :: t65 :: t66 :: t67 :: t68 :: t69 :: t70 :: t71 :: t72 :: t73 :: t74 :: t75 :: t76 :: t77 :: t78 :: t79 :: t80 :: t81 :: t82 :: t83 :: t84 :: t85 :: t86 :: t87 :: t88 :: t89 :: t90 :: t91 :: t92 :: t93 :: t94 :: t95 :: t96 :: t97 :: t98 :: t99 :: t100 :: t101 :: t102 :: t103 :: t104 :: t105 :: []) = (t0 :: t1 :: t2 :: t3 :: t4 :: v 14 :: v 15 :: t7 :: t8 :: t9 :: t10 :: t11 :: t12 :: t13 :: t14 :: t15 :: t16 :: t17 :: t18 :: t19 :: t20 :: v 11 :: v 0 :: v 1 :: v 2 :: v 3 :: v 4 :: v 5 :: v 6 :: v 7 :: v 8 :: v 9 :: v 10 :: v 12 :: v 13 :: t35 :: t36 :: t37 :: t38 :: t39 :: t40 :: t41 :: t42 :: t43 :: t44 :: t45 :: t46 :: t47 :: t48 :: t49 :: t50 :: t51 :: t52 :: t53 :: t54 :: t55 :: t56 :: t57 :: t58 :: t59 :: t60 :: t61 :: t62 :: t63 :: t64 :: t65 :: t66 :: t67 :: t68 :: t69 :: t70 :: t71 :: t72 :: t73 :: t74 :: t75 :: t76 :: t77 :: t78 :: t79 :: t80 :: t81 :: t82 :: t83 :: t84 :: t85 :: t86 :: t87 :: t88 :: t89 :: t90 :: t91 :: t92 :: t93 :: t94 :: t95 :: t96 :: t97 :: t98 :: t99 :: t100 :: t101 :: t102 :: t103 :: t104 :: t105 :: []) := by kernel_rfl
theorem CTab.chg {w w' : World} {D : List Nat} (h : CTab w) (hc : Chg w w' D) (hl : 1 < w.heap.size) (hD : 1 ∉ D) : CTab w' := by
 have h' : w.var? Tryz.prog "astrolabe/ops.costs" = some _ := h
 show w'.var? Tryz.prog "astrolabe/ops.costs" = some _
 unfold World.var? at h' ⊢
 rw [show Tryz.prog.globalNamed "astrolabe/ops.costs" = some 1 by kernel_rfl] at h' ⊢
 simp only [Option.bind_some] at h' ⊢
 rw [hc.block _ hl hD]; exact h'
set_option maxRecDepth 100000 in
theorem alucost_calls (op x : Int) (w : World) (hc : CTab w) (h22 : op ≠ 22) (h23 : op ≠ 23) : Calls Tryz.prog 80 #[.int .i64 op, .int .i32 x] w fun e w' => e = .returned (.int .i64 (costOf op)) ∧ w = w' := by
 have hcc := cost_calls op w hc
 have x1 : (op == 22) = false := beq_eq_false_iff_ne.2 h22
 have x2 : (op == 23) = false := beq_eq_false_iff_ne.2 h23
 clear h22 h23 hc
 generalize costOf op = z at *
 go_enter Tryz.func80, Tryz.ntmps80
 go_wp2_with fail
 go_at_call 99
 refine hcc.mono ?_
 rintro e w1 ⟨rfl, rfl⟩
 go_wp2
 go_ret
 exact ⟨rfl, rfl⟩
set_option maxRecDepth 100000 in
set_option maxHeartbeats 1000000 in
theorem does_alu {w : World} {c : Nat} {bp cv mv : Value} {code : List (Ins5 × Bool)} {s : CS} (h : CB w c bp cv mv code s) (op x cost : Int) (d a b : Nat) (hop : op ≤ 30) (hd : d < 32) (ha : a < 32) (hb : b < 32) (hm : s.marks.length ≤ 2000000)
 (hdo : ∀ W, Calls Tryz.prog 77 #[.int .i64 op, .int .i32 (regC s a), .int .i32 (regC s b)] W fun e w' => e = .returned (.tuple #[.int .i32 x, .bool true]) ∧ Chg W w' [])
 (hco : ∀ W, CTab W → Calls Tryz.prog 80 #[.int .i64 op, .int .i32 (regC s a)] W fun e w' => e = .returned (.int .i64 cost) ∧ W = w') (hct : CTab w) (hgl : 1 < w.heap.size) (hgf : 1 ∉ footC c cv mv) :
 Calls Tryz.prog 61 #[.pointer (some ⟨c, 0, none⟩), insVal ⟨op, d, a, b, 0⟩] w fun e w' => (∃ v, e = .returned v) ∧ CoreP (onC (putC s d x) cost) c bp cv mv code w w' := by
 have H := hide h
 have HM := hide hm
 have hca := h.blk.cell' (cc_reg h.reg a ha)
 have hcb := h.blk.cell' (cc_reg h.reg b hb)
 have hlt := h.blk.lt
 have ha2 : (a : Int) < 32 := by omega
 have hb2 : (b : Int) < 32 := by omega
 have hx30 : decide (op ≤ 30) = true := decide_eq_true hop
 have HCT := hide hct
 have HGL := hide hgl
 have HGF := hide hgf
 have hmix : Tryz.prog.follows .mixedOrders = true := by kernel_rfl
 replace hmix := hide hmix
 unfold regC at hdo hco
 generalize s.regs.getD a 0 = ra at *
 generalize s.regs.getD b 0 = rb at *
 clear h hm hct hgl hgf hop
 unfold insVal
 go_enter Tryz.func61, Tryz.ntmps61
 go_wp2
 go_quiet (fail)
 have hc0 : Chg w ((w.alloc (.cells #[.int .i64 op, .int .i64 d, .int .i64 a, .int .i64 b, .int .i64 0] 25)).drewN nq) [] := ((Chg.refl w []).alloc _).drewN nq
 have hb5 : Blk ((w.alloc (.cells #[.int .i64 op, .int .i64 d, .int .i64 a, .int .i64 b, .int .i64 0] 25)).drewN nq) w.heap.size 25 [.int .i64 op, .int .i64 d, .int .i64 a, .int .i64 b, .int .i64 0] := (Blk.new w 25 [.int .i64 op, .int .i64 d, .int .i64 a, .int .i64 b, .int .i64 0]).drewN nq
 go_upto_region 4 with (fail)
 generalize (w.alloc (.cells #[.int .i64 op, .int .i64 d, .int .i64 a, .int .i64 b, .int .i64 0] 25)).drewN nq = w0 at *
 have cb := hc0.cell hcb (by simp)
 have i0 : w0.cell? ⟨w.heap.size, 0, none⟩ = some (.int .i64 op) := hb5.cell' (i := 0) rfl
 have i1 : w0.cell? ⟨w.heap.size, 1, none⟩ = some (.int .i64 d) := hb5.cell' (i := 1) rfl
 have i3 : w0.cell? ⟨w.heap.size, 3, none⟩ = some (.int .i64 b) := hb5.cell' (i := 3) rfl
 have HC0 := hide hc0
 have HB5 := hide hb5
 clear hca hcb hc0 hb5
 have HB5 := hide HB5.out
 have HIA : Hid (∀ k, k < w.heap.size → k ≠ w.heap.size) := hide (fun k h e => by omega)
 obtain ⟨ia, hia⟩ : ∃ ia, ia = w.heap.size := ⟨_, rfl⟩
 have HIA2 := hide hia
 rw [← hia] at i0 i1 i3 HB5 ⊢
 clear hia
 refine wp_regionJ hmix.out _ _ (fun _ => vC4 ia c b op ra rb x) (fun (_ : Unit) L w' => Chg w0 w' []) () (by kernel_rfl) [] (by kernel_rfl) (fun p hp γ => by simp at hp) (by kernel_rfl) ?step ?start ?fin ?ext
 case start => exact (Chg.refl w0 []).drew
 case ext => exact fun γ L L' w' h hw => hw
 case step =>
  intro i o ho L av w1 γ hdn htm hW hL hpre K Q hK
  match i, ho with
  | 0, ho =>
   injection ho with ho; subst ho
   have b3 : av.tmps.getD 3 undef = .pointer (some ⟨ia, 0, none⟩) := slB htm 3 (by kernel_rfl)
   clear htm
   refine val_now ?_ (hK () w1 (fun _ _ => rfl) hW); go_simp; rfl
  | 1, ho =>
   injection ho with ho; subst ho
   have s0 := slA htm 22 0 (by kernel_rfl) (hpre ⟨0, .data⟩ (by simp) rfl)
   simp only [vC4] at s0
   clear htm
   have y := hW.cell i0 (by simp)
   refine val_now ?_ (hK () w1 (fun _ _ => rfl) hW); go_simp; rfl
  | 2, ho =>
   injection ho with ho; subst ho
   have b4 : av.tmps.getD 4 undef = .int .i32 ra := slB htm 4 (by kernel_rfl)
   clear htm
   refine val_now ?_ (hK () w1 (fun _ _ => rfl) hW); go_simp; rfl
  | 3, ho =>
   injection ho with ho; subst ho
   have b0 : av.tmps.getD 0 undef = .pointer (some ⟨c, 0, none⟩) := slB htm 0 (by kernel_rfl)
   clear htm
   refine val_now ?_ (hK () w1 (fun _ _ => rfl) hW); go_simp; rfl
  | 4, ho =>
   injection ho with ho; subst ho
   have b3 : av.tmps.getD 3 undef = .pointer (some ⟨ia, 0, none⟩) := slB htm 3 (by kernel_rfl)
   clear htm
   refine val_now ?_ (hK () w1 (fun _ _ => rfl) hW); go_simp; rfl
  | 5, ho =>
   injection ho with ho; subst ho
   have s4 := slA htm 26 4 (by kernel_rfl) (hpre ⟨4, .data⟩ (by simp) rfl)
   simp only [vC4] at s4
   clear htm
   have y := hW.cell i3 (by simp)
   refine val_now ?_ (hK () w1 (fun _ _ => rfl) hW); go_simp; rfl
  | 6, ho =>
   injection ho with ho; subst ho
   have s3 := slA htm 25 3 (by kernel_rfl) (hpre ⟨3, .data⟩ (by simp) rfl)
   simp only [vC4] at s3
   clear htm
   refine val_now ?_ (hK () w1 (fun _ _ => rfl) hW); go_simp; rfl
  | 7, ho =>
   injection ho with ho; subst ho
   have s6 := slA htm 28 6 (by kernel_rfl) (hpre ⟨6, .data⟩ (by simp) rfl)
   simp only [vC4] at s6
   clear htm
   refine val_now ?_ (hK () w1 (fun _ _ => rfl) hW); go_simp; rfl
  | 8, ho =>
   injection ho with ho; subst ho
   have s7 := slA htm 29 7 (by kernel_rfl) (hpre ⟨7, .data⟩ (by simp) rfl)
   have s5 := slA htm 27 5 (by kernel_rfl) (hpre ⟨5, .data⟩ (by simp) rfl)
   simp only [vC4] at s7 s5
   clear htm
   refine val_now ?_ (hK () w1 (fun _ _ => rfl) hW); go_simp; rfl
  | 9, ho =>
   injection ho with ho; subst ho
   have s8 := slA htm 30 8 (by kernel_rfl) (hpre ⟨8, .data⟩ (by simp) rfl)
   simp only [vC4] at s8
   clear htm
   have y := hW.cell cb (by simp)
   refine val_now ?_ (hK () w1 (fun _ _ => rfl) hW); go_simp; rfl
  | 10, ho =>
   injection ho with ho; subst ho
   have s1 := slA htm 23 1 (by kernel_rfl) (hpre ⟨1, .data⟩ (by simp) rfl)
   have s2 := slA htm 24 2 (by kernel_rfl) (hpre ⟨2, .data⟩ (by simp) rfl)
   have s9 := slA htm 31 9 (by kernel_rfl) (hpre ⟨9, .data⟩ (by simp) rfl)
   simp only [vC4] at s1 s2 s9
   clear htm
   refine call_now (f := 77) (args := #[.int .i64 op, .int .i32 ra, .int .i32 rb]) ?_ (hdo w1) ?_
   · go_simp
   · rintro e w2 ⟨rfl, hc⟩
     exact ⟨_, rfl, hK () w2 (fun _ _ => rfl) (hW.trans hc (by simp))⟩
  | 11, ho =>
   injection ho with ho; subst ho
   have s10 := slA htm 32 10 (by kernel_rfl) (hpre ⟨10, .data⟩ (by simp) rfl)
   simp only [vC4] at s10
   clear htm
   refine val_now ?_ (hK () w1 (fun _ _ => rfl) hW); go_simp; rfl
  | 12, ho =>
   injection ho with ho; subst ho
   have s11 := slA htm 21 11 (by kernel_rfl) (hpre ⟨11, .data⟩ (by simp) rfl)
   simp only [vC4] at s11
   clear htm
   refine val_now ?_ (hK () w1 (fun _ _ => rfl) hW); go_simp; rfl
  | 13, ho =>
   injection ho with ho; subst ho
   have s11 := slA htm 21 11 (by kernel_rfl) (hpre ⟨11, .data⟩ (by simp) rfl)
   simp only [vC4] at s11
   clear htm
   refine val_now ?_ (hK () w1 (fun _ _ => rfl) hW); go_simp; rfl
  | 14, ho =>
   injection ho with ho; subst ho
   have s12 := slA htm 33 12 (by kernel_rfl) (hpre ⟨12, .data⟩ (by simp) rfl)
   simp only [vC4] at s12
   clear htm
   refine val_now ?_ (hK () w1 (fun _ _ => rfl) hW); go_simp; rfl
  | 15, ho =>
   injection ho with ho; subst ho
   have s13 := slA htm 34 13 (by kernel_rfl) (hpre ⟨13, .data⟩ (by simp) rfl)
   simp only [vC4] at s13
   clear htm
   refine val_now ?_ (hK () w1 (fun _ _ => rfl) hW); go_simp; rfl
  | _ + 16, ho => cases ho
 case fin =>
 intro γ w1 hW
 rw [finG_puts, putsR_list, putsL_dst]
 simp only [List.map_cons, List.map_nil]
 rw [putsC4]
 simp only [vC4]
 have hc1 : Chg w0 w1 [] := hW
 have hc01 : Chg w w1 [] := HC0.out.trans hc1 (by simp)
 have hb1 := HB5.out.chg hc1 (by simp)
 have j0 : w1.cell? ⟨ia, 0, none⟩ = some (.int .i64 op) := hb1.cell' (i := 0) rfl
 have j1 : w1.cell? ⟨ia, 1, none⟩ = some (.int .i64 d) := hb1.cell' (i := 1) rfl
 have h1 := H.out.chg hc01 (by simp)
 have HP := hide (put_calls h1 d hd x)
 have HC1 := hide hc01
 have HB1 := hide hb1
 have HN : Hid (ia ∉ [c] ++ mv.ownBlock.toList) := hide (fun hm => by
  simp only [List.mem_append, List.mem_singleton, Option.mem_toList] at hm
  rcases hm with hm | hm
  · have := H.out.blk.lt; have := HIA2.out; omega
  · have := (H.out.rowM.lt _ hm).2; have := HIA2.out; omega)
 clear hW hc1 hc01 hb1 h1 hdo i0 i1 i3 cb HC0 HB5
 go_wp2_with fail
 go_at_call 78
 refine HP.out.mono ?_
 rintro e w2 ⟨⟨v, rfl⟩, hc2, mv1, hm1, hb2⟩
 have hct2 : CTab w2 := (HCT.out.chg HC1.out HGL.out (by simp)).chg hc2 (by have := HGL.out; have := HC1.out.size; omega) (fun hm => HGF.out (by simp only [footC, List.mem_append] at hm ⊢; exact hm.elim .inl (fun h => .inr (.inr h))))
 have hk0 : w2.cell? ⟨ia, 0, none⟩ = some (.int .i64 op) := (HB1.out.chg hc2 HN.out).cell' (i := 0) rfl
 have hco2 := hco w2 hct2
 have HO := hide (on_calls hb2 cost (by rw [putC_marks]; exact HM.out))
 have HC2 := hide hc2
 have HM1 := hide hm1
 clear hc2 hm1 hb2 HP hct2 hco j0 j1
 go_wp2_with fail
 go_at_call 80
 refine hco2.mono ?_
 rintro e w3 ⟨rfl, rfl⟩
 go_wp2_with fail
 go_at_call 79
 refine HO.out.mono ?_
 rintro e w3 ⟨⟨v2, rfl⟩, hp3⟩
 have HP3 := hide hp3
 clear hp3
 go_wp2
 refine bodyPost_end (results_none rfl _ _ _) rfl ?_
 exact ⟨⟨_, rfl⟩, CoreP.alloc HC1.out (CoreP.step HC2.out HM1.out HP3.out)⟩
end Go.Proofs.YtjfnpokebaagmaaGreatDoor
