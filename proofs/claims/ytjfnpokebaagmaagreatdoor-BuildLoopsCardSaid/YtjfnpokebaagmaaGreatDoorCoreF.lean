/- The core: halt. -/
import Derived.Test.YtjfnpokebaagmaaGreatDoorCoreE
namespace Go.Proofs.YtjfnpokebaagmaaGreatDoor
open Go Go.RowKit Go.Deep Go.Maps Go.Proofs.YtjfnpokebaagmaaGreatDoor.Xi
set_option linter.unusedVariables false
attribute [local go_sem] Oper.semAt_some
def vH16 (ia c : Nat) (pc : Int) (g : Value) : Nat → Value
 | 0 => .pointer (some ⟨c, 0, none⟩)
 | 1 => .pointer (some ⟨c, 0, none⟩)
 | 2 => .pointer (some ⟨c, 0, none⟩)
 | 3 => .pointer (some ⟨c, 34, none⟩)
 | 4 => .int .i64 pc
 | 5 => .pointer (some ⟨ia, 0, none⟩)
 | 6 => .int .i64 43
 | 7 => .int .i64 1
 | 8 => g
 | _ => undef
theorem vH16_g (ia c : Nat) (pc : Int) (g0 g1 : Value) : ∀ i, i ≠ 8 → vH16 ia c pc g0 i = vH16 ia c pc g1 i
 | 0, _ => rfl
 | 1, _ => rfl
 | 2, _ => rfl
 | 3, _ => rfl
 | 4, _ => rfl
 | 5, _ => rfl
 | 6, _ => rfl
 | 7, _ => rfl
 | 8, h => absurd rfl h
 | _ + 9, _ => rfl
theorem putsH16 (v : Nat → Value) (t0 t1 t2 t3 t4 t5 t6 t7 t8 t9 t10 t11 t12 t13 t14 t15 t16 t17 t18 t19 t20 t21 t22 t23 t24 t25 t26 t27 t28 t29 t30 t31 t32 t33 t34 t35 t36 t37 t38 t39 t40 t41 t42 t43 t44 t45 t46 t47 t48 t49 t50 t51 t52 t53 t54 t55 t56 t57 t58 t59 t60 t61 t62 t63 t64 t65 t66 t67 t68 t69 t70 t71 t72 t73 t74 t75 t76 t77 t78 t79 t80 t81 t82 t83 t84 t85 t86 t87 t88 t89 t90 t91 t92 t93 t94 : Value) : putsD v (some 78 :: some 79 :: some 80 :: some 81 :: some 82 :: some 83 :: some 84 :: some 85 :: some 86 :: []) 0 (t0 :: t1 :: t2 :: t3 :: t4 :: t5 :: t6 :: t7 :: t8 :: t9 :: t10 :: t11 :: t12 :: t13 :: t14 :: t15 :: t16 :: t17 :: t18 :: t19 :: t20 :: t21 :: t22 :: t23 :: t24 :: t25 :: t26 :: t27 :: t28 :: t29 :: t30 :: t31 :: t32 :: t33 :: t34 :: t35 :: t36 :: t37 :: t38 :: t39 :: t40 :: t41 :: t42 :: t43 :: t44 :: t45 :: t46 :: t47 :: t48 :: t49 :: t50 :: t51 :: t52 :: t53 :: t54 :: t55 :: t56 :: t57 :: t58 :: t59 :: t60 :: t61 :: t62 :: t63 :: t64 :: t65 :: t66 :: t67 :: t68 :: t69 :: t70 :: t71 :: t72 :: t73 :: t74 :: t75 :: t76 :: t77 :: t78 :: t79 :: t80 :: t81 :: t82 :: t83 :: t84 :: t85 :: t86 :: t87 :: t88 :: t89 :: t90 :: t91 :: t92 :: t93 :: t94 :: []) = (t0 :: t1 :: t2 :: t3 :: t4 :: t5 :: t6 :: t7 :: t8 :: t9 :: t10 :: t11 :: t12 :: t13 :: t14 :: t15 :: t16 :: t17 :: t18 :: t19 :: t20 :: t21 :: t22 :: t23 :: t24 :: t25 :: t26 :: t27 :: t28 :: t29 :: t30 :: t31 :: t32 :: t33 :: t34 :: t35 :: t36 :: t37 :: t38 :: t39 :: t40 :: t41 :: t42 :: t43 :: t44 :: t45 :: t46 :: t47 :: t48 :: t49 :: t50 :: t51 :: t52 :: t53 :: t54 :: t55 :: t56 :: t57 :: t58 :: t59 :: t60 :: t61 :: t62 :: t63 :: t64 :: t65 :: t66 :: t67 :: t68 :: t69 :: t70 :: t71 :: t72 :: t73 :: t74 :: t75 :: t76 :: t77 :: v 0 :: v 1 :: v 2 :: v 3 :: v 4 :: v 5 :: v 6 :: v 7 :: v 8 :: t87 :: t88 :: t89 :: t90 :: t91 :: t92 :: t93 :: t94 :: []) := by kernel_rfl
theorem cost43 : costOf 43 = 1 := by kernel_rfl
def WH (w0 : World) (s1 : CS) (c : Nat) (bp cv mv : Value) (code : List (Ins5 × Bool)) (L : Nat → Bool) (w : World) : Prop := bif L 8 then CoreP s1 c bp cv mv code w0 w else Chg w0 w []
section
variable {w0 w : World} {s1 : CS} {c : Nat} {bp cv mv : Value} {code : List (Ins5 × Bool)} {L L' : Nat → Bool}
theorem WH.low (h : WH w0 s1 c bp cv mv code L w) (h8 : L 8 = false) : Chg w0 w [] := by unfold WH at h; rw [h8] at h; exact h
theorem WH.ext (h : WH w0 s1 c bp cv mv code L w) (e : L 8 = L' 8) : WH w0 s1 c bp cv mv code L' w := by unfold WH at h ⊢; rw [← e]; exact h
theorem WH.keep {i : Nat} (h : WH w0 s1 c bp cv mv code L w) (hi : 8 ≠ i) : WH w0 s1 c bp cv mv code (fun j => if j = i then true else L j) w := h.ext (by simp only [if_neg hi])
theorem WH.high {w2 : World} (h : Chg w0 w []) (hp : CoreP s1 c bp cv mv code w w2) : WH w0 s1 c bp cv mv code (fun j => if j = 8 then true else L j) w2 := by
 unfold WH
 simp only [if_true, cond_true]
 exact CoreP.alloc h hp
end
def haltC (s : CS) : CS := { goesC s s.pc (-1) 1 with st := 1 }
set_option maxRecDepth 100000 in
set_option maxHeartbeats 1000000 in
theorem moves_halt {w : World} {c : Nat} {bp cv mv : Value} {code : List (Ins5 × Bool)} {s : CS} (h : CB w c bp cv mv code s) (hm : s.marks.length ≤ 2000000) (hct : CTab w) (hgl : 1 < w.heap.size) :
 Calls Tryz.prog 82 #[.pointer (some ⟨c, 0, none⟩), insVal ⟨43, 0, 0, 0, 0⟩] w fun e w' => (∃ v, e = .returned v) ∧ CoreP (haltC s) c bp cv mv code w w' := by
 have H := hide h
 have HM := hide hm
 have HCT0 := hide hct
 have HGL0 := hide hgl
 have hca := h.blk.cell' (cc_reg h.reg 0 (by decide))
 have hpc := h.blk.cell' (@cc_at bp cv mv s h.reg).1
 have hlt := h.blk.lt
 have hmix : Tryz.prog.follows .mixedOrders = true := by kernel_rfl
 replace hmix := hide hmix
 generalize s.regs.getD 0 0 = ra at *
 clear h hm hct hgl
 unfold insVal
 go_enter Tryz.func82, Tryz.ntmps82
 go_wp2
 go_quiet (fail)
 have hc0 : Chg w ((w.alloc (.cells #[.int .i64 43, .int .i64 0, .int .i64 0, .int .i64 0, .int .i64 0] 25)).drewN nq) [] := ((Chg.refl w []).alloc _).drewN nq
 have hb5 : Blk ((w.alloc (.cells #[.int .i64 43, .int .i64 0, .int .i64 0, .int .i64 0, .int .i64 0] 25)).drewN nq) w.heap.size 25 [.int .i64 43, .int .i64 0, .int .i64 0, .int .i64 0, .int .i64 0] := (Blk.new w 25 [.int .i64 43, .int .i64 0, .int .i64 0, .int .i64 0, .int .i64 0]).drewN nq
 go_upto_region 16 with (fail)
 generalize (w.alloc (.cells #[.int .i64 43, .int .i64 0, .int .i64 0, .int .i64 0, .int .i64 0] 25)).drewN nq = w0 at *
 have cpc := hc0.cell hpc (by simp)
 have i0 : w0.cell? ⟨w.heap.size, 0, none⟩ = some (.int .i64 43) := hb5.cell' (i := 0) rfl
 have HC := hide (H.out.chg hc0 (by simp))
 have HCT := hide (HCT0.out.chg hc0 HGL0.out (by simp))
 have HGL : Hid (1 < w0.heap.size) := hide (Nat.lt_of_lt_of_le HGL0.out hc0.size)
 have HC0 := hide hc0
 generalize hpcq : s.pc = pc at *
 generalize w.heap.size = ia at *
 clear hb5 hc0
 refine wp_regionJ hmix.out _ _ (fun g => vH16 ia c pc g) (fun (g : Value) L w' => WH w0 (goesC s pc (-1) 1) c bp cv mv code L w') undef (by kernel_rfl) [] (by kernel_rfl) (fun p hp γ => by simp at hp) (by kernel_rfl) ?step ?start ?fin ?ext
 case start => exact (Chg.refl w0 []).drew
 case ext => exact fun γ L L' w' h hw => hw.ext (h 8 (by decide))
 case step =>
  intro i o ho L av w1 γ hdn htm hW hL hpre K Q hK
  match i, ho with
  | 0, ho =>
   injection ho with ho; subst ho
   have b0 : av.tmps.getD 0 undef = .pointer (some ⟨c, 0, none⟩) := slB htm 0 (by kernel_rfl)
   clear htm
   refine val_now ?_ (hK γ w1 (fun _ _ => rfl) (hW.keep (by decide))); go_simp; rfl
  | 1, ho =>
   injection ho with ho; subst ho
   have b0 : av.tmps.getD 0 undef = .pointer (some ⟨c, 0, none⟩) := slB htm 0 (by kernel_rfl)
   clear htm
   refine val_now ?_ (hK γ w1 (fun _ _ => rfl) (hW.keep (by decide))); go_simp; rfl
  | 2, ho =>
   injection ho with ho; subst ho
   have s1 := slA htm 79 1 (by kernel_rfl) (hpre ⟨1, .data⟩ (by simp) rfl)
   simp only [vH16] at s1
   clear htm
   refine val_now ?_ (hK γ w1 (fun _ _ => rfl) (hW.keep (by decide))); go_simp; rfl
  | 3, ho =>
   injection ho with ho; subst ho
   have s2 := slA htm 80 2 (by kernel_rfl) (hpre ⟨2, .data⟩ (by simp) rfl)
   simp only [vH16] at s2
   clear htm
   refine val_now ?_ (hK γ w1 (fun _ _ => rfl) (hW.keep (by decide))); go_simp; rfl
  | 4, ho =>
   injection ho with ho; subst ho
   have s3 := slA htm 81 3 (by kernel_rfl) (hpre ⟨3, .data⟩ (by simp) rfl)
   simp only [vH16] at s3
   clear htm
   have l8 : L 8 = false := by
    cases h : L 8 with
    | false => rfl
    | true =>
     have h4 : L 4 = true := hdn 8 _ rfl h ⟨4, .data⟩ (by simp) rfl
     rw [hL] at h4; cases h4
   have y := (WH.low hW l8).cell cpc (by simp)
   refine val_now ?_ (hK γ w1 (fun _ _ => rfl) (hW.keep (by decide))); go_simp; rfl
  | 5, ho =>
   injection ho with ho; subst ho
   have b3 : av.tmps.getD 3 undef = .pointer (some ⟨ia, 0, none⟩) := slB htm 3 (by kernel_rfl)
   clear htm
   refine val_now ?_ (hK γ w1 (fun _ _ => rfl) (hW.keep (by decide))); go_simp; rfl
  | 6, ho =>
   injection ho with ho; subst ho
   have s5 := slA htm 83 5 (by kernel_rfl) (hpre ⟨5, .data⟩ (by simp) rfl)
   simp only [vH16] at s5
   clear htm
   have l8 : L 8 = false := by
    cases h : L 8 with
    | false => rfl
    | true =>
     have h7 : L 7 = true := hdn 8 _ rfl h ⟨7, .data⟩ (by simp) rfl
     have h6 : L 6 = true := hdn 7 _ rfl h7 ⟨6, .data⟩ (by simp) rfl
     rw [hL] at h6; cases h6
   have y := (WH.low hW l8).cell i0 (by simp)
   refine val_now ?_ (hK γ w1 (fun _ _ => rfl) (hW.keep (by decide))); go_simp; rfl
  | 7, ho =>
   injection ho with ho; subst ho
   have s6 := slA htm 84 6 (by kernel_rfl) (hpre ⟨6, .data⟩ (by simp) rfl)
   simp only [vH16] at s6
   clear htm
   have l8 : L 8 = false := by
    cases h : L 8 with
    | false => rfl
    | true =>
     have h7 : L 7 = true := hdn 8 _ rfl h ⟨7, .data⟩ (by simp) rfl
     rw [hL] at h7; cases h7
   have hc := cost_calls 43 w1 (HCT.out.chg (WH.low hW l8) HGL.out (by simp))
   rw [cost43] at hc
   refine call_now (f := 99) (args := #[.int .i64 43]) ?_ hc ?_
   · go_simp
   · rintro e w2 ⟨rfl, rfl⟩
     exact ⟨_, rfl, hK γ _ (fun _ _ => rfl) (hW.keep (by decide))⟩
  | 8, ho =>
   injection ho with ho; subst ho
   have s0 := slA htm 78 0 (by kernel_rfl) (hpre ⟨0, .data⟩ (by simp) rfl)
   have s4 := slA htm 82 4 (by kernel_rfl) (hpre ⟨4, .data⟩ (by simp) rfl)
   have s7 := slA htm 85 7 (by kernel_rfl) (hpre ⟨7, .data⟩ (by simp) rfl)
   simp only [vH16] at s0 s4 s7
   clear htm
   refine call_now (f := 98) (args := #[.pointer (some ⟨c, 0, none⟩), .int .i64 pc, .int .i64 (-1), .int .i64 1]) ?_ (goes_c_calls (HC.out.chg (WH.low hW hL) (by simp)) pc (-1) 1 HM.out) ?_
   · go_simp
   · rintro e w2 ⟨⟨v, rfl⟩, hp⟩
     exact ⟨v, rfl, hK v w2 (fun jj hjj => vH16_g _ _ _ _ _ jj (fun e => by rw [e, hL] at hjj; cases hjj)) (WH.high (WH.low hW hL) hp)⟩
  | _ + 9, ho => cases ho
 case fin =>
 intro γ w1 hW
 rw [finG_puts, putsR_list, putsL_dst]
 simp only [List.map_cons, List.map_nil]
 rw [putsH16]
 simp only [vH16]
 have hp1 : CoreP (goesC s pc (-1) 1) c bp cv mv code w0 w1 := hW
 obtain ⟨hc1, mv1, hm1, hb1⟩ := hp1
 have hst := hb1.blk.cell' (@cc_at bp cv mv1 _ hb1.reg).2.1
 have hfz := hb1.blk.frozen 35
 have hlt1 := hb1.blk.lt
 have HC1 := hide hc1
 have HM1 := hide hm1
 have HB1 := hide hb1
 clear hW hc1 hm1 hb1 cpc i0 hca hpc
 go_wp2
 refine bodyPost_end (results_none rfl _ _ _) rfl ?_
 refine ⟨⟨_, rfl⟩, CoreP.alloc HC0.out (CoreP.step HC1.out HM1.out ⟨(Chg.refl w1 _).setCell _ _ (.inl (by simp)), mv1, .inl rfl, ?_⟩)⟩
 have hc : Chg w1 (w1.setCell ⟨c, 35, none⟩ (.int .i64 1)) [c] := (Chg.refl w1 _).setCell _ _ (.inl (by simp))
 obtain ⟨n1, n2, n3⟩ := HB1.out.ne
 have hb := HB1.out.blk.set_ 35 (.int .i64 1)
 rw [cc_set35 HB1.out.reg] at hb
 unfold haltC
 rw [hpcq]
 exact ⟨hb, own_chgD HB1.out.rowC hc (fun g hg hm => by simp at hm; subst hm; exact n1 hg), own_chgD HB1.out.rowM hc (fun g hg hm => by simp at hm; subst hm; exact n2 hg), HB1.out.reg⟩
end Go.Proofs.YtjfnpokebaagmaaGreatDoor
