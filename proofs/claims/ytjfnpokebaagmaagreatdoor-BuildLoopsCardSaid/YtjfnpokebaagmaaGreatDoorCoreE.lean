/- The core: a branch. -/
import Derived.Test.YtjfnpokebaagmaaGreatDoorCoreD
namespace Go.Proofs.YtjfnpokebaagmaaGreatDoor
open Go.RowKit Go.Deep Go.Maps
set_option linter.unusedVariables false
attribute [local go_sem] Oper.semAt_some
set_option maxRecDepth 100000 in
set_option maxHeartbeats 1000000 in
theorem moves_blt {w : World} {c : Nat} {bp cv mv : Value} {code : List (Ins5 × Bool)} {s : CS} (h : CB w c bp cv mv code s) (d a : Nat) (n : Int) (hd : d < 32) (ha : a < 32) (hm : s.marks.length ≤ 2000000) :
 Calls Tryz.prog 82 #[.pointer (some ⟨c, 0, none⟩), insVal ⟨38, d, a, 0, n⟩] w fun e w' => (∃ v, e = .returned v) ∧ CoreP (branchC s n (decide (regC s d < regC s a))) c bp cv mv code w w' := by
 have H := hide h
 have HM := hide hm
 have hca := h.blk.cell' (cc_reg h.reg a ha)
 have hcd := h.blk.cell' (cc_reg h.reg d hd)
 have hlt := h.blk.lt
 have ha2 : (a : Int) < 32 := by omega
 have hd2 : (d : Int) < 32 := by omega
 unfold regC
 generalize s.regs.getD a 0 = ra at *
 generalize s.regs.getD d 0 = rd at *
 clear h hm
 unfold insVal
 go_enter Tryz.func82, Tryz.ntmps82
 go_wp2
 go_quiet (fail)
 have hc0 : Chg w ((w.alloc (.cells #[.int .i64 38, .int .i64 d, .int .i64 a, .int .i64 0, .int .i64 n] 25)).drewN nq) [] := ((Chg.refl w []).alloc _).drewN nq
 have HB := hide (branch_calls (H.out.chg hc0 (by simp)) ⟨38, d, a, 0, n⟩ (decide (rd < ra)) HM.out)
 have HC0 := hide hc0
 unfold insVal at HB
 clear hc0
 go_wp2_with fail
 go_at_call 103
 refine HB.out.mono ?_
 rintro e w1 ⟨⟨v, rfl⟩, hp⟩
 have HP := hide hp
 clear hp HB
 go_wp2
 refine bodyPost_end (results_none rfl _ _ _) rfl ?_
 exact ⟨⟨_, rfl⟩, CoreP.alloc HC0.out HP.out⟩
set_option maxRecDepth 100000 in
set_option maxHeartbeats 1000000 in
theorem does_blt {w : World} {c : Nat} {bp cv mv : Value} {code : List (Ins5 × Bool)} {s : CS} (h : CB w c bp cv mv code s) (d a : Nat) (n : Int) (hd : d < 32) (ha : a < 32) (hm : s.marks.length ≤ 2000000) :
 Calls Tryz.prog 61 #[.pointer (some ⟨c, 0, none⟩), insVal ⟨38, d, a, 0, n⟩] w fun e w' => (∃ v, e = .returned v) ∧ CoreP (branchC s n (decide (regC s d < regC s a))) c bp cv mv code w w' := by
 have H := hide h
 have HM := hide hm
 have hca := h.blk.cell' (cc_reg h.reg a ha)
 have hlt := h.blk.lt
 have ha2 : (a : Int) < 32 := by omega
 generalize s.regs.getD a 0 = ra at *
 clear h hm
 unfold insVal
 go_enter Tryz.func61, Tryz.ntmps61
 go_wp2
 go_quiet (fail)
 have hc0 : Chg w ((w.alloc (.cells #[.int .i64 38, .int .i64 d, .int .i64 a, .int .i64 0, .int .i64 n] 25)).drewN nq) [] := ((Chg.refl w []).alloc _).drewN nq
 have HB := hide (moves_blt (H.out.chg hc0 (by simp)) d a n hd ha HM.out)
 have HC0 := hide hc0
 unfold insVal at HB
 clear hc0
 go_wp2_with fail
 go_at_call 82
 refine HB.out.mono ?_
 rintro e w1 ⟨⟨v, rfl⟩, hp⟩
 have HP := hide hp
 clear hp HB
 go_wp2
 refine bodyPost_end (results_none rfl _ _ _) rfl ?_
 exact ⟨⟨_, rfl⟩, CoreP.alloc HC0.out HP.out⟩
end Go.Proofs.YtjfnpokebaagmaaGreatDoor
