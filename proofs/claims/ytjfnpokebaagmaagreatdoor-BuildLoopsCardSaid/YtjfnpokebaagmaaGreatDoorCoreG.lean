/- The core: a step. -/
import Derived.Test.YtjfnpokebaagmaaGreatDoorCoreF
namespace Go.Proofs.YtjfnpokebaagmaaGreatDoor
open Go.RowKit Go.Deep Go.Maps
set_option linter.unusedVariables false
attribute [local go_sem] Oper.semAt_some
set_option maxRecDepth 100000 in
set_option maxHeartbeats 1000000 in
theorem does_halt {w : World} {c : Nat} {bp cv mv : Value} {code : List (Ins5 × Bool)} {s : CS} (h : CB w c bp cv mv code s) (hm : s.marks.length ≤ 2000000) (hct : CTab w) (hgl : 1 < w.heap.size) :
 Calls Tryz.prog 61 #[.pointer (some ⟨c, 0, none⟩), insVal ⟨43, 0, 0, 0, 0⟩] w fun e w' => (∃ v, e = .returned v) ∧ CoreP (haltC s) c bp cv mv code w w' := by
 have H := hide h
 have HM := hide hm
 have HCT := hide hct
 have HGL := hide hgl
 have hca := h.blk.cell' (cc_reg h.reg 0 (by decide))
 have hlt := h.blk.lt
 generalize s.regs.getD 0 0 = ra at *
 clear h hm hct hgl
 unfold insVal
 go_enter Tryz.func61, Tryz.ntmps61
 go_wp2
 go_quiet (fail)
 have hc0 : Chg w ((w.alloc (.cells #[.int .i64 43, .int .i64 0, .int .i64 0, .int .i64 0, .int .i64 0] 25)).drewN nq) [] := ((Chg.refl w []).alloc _).drewN nq
 have HB := hide (moves_halt (H.out.chg hc0 (by simp)) HM.out (HCT.out.chg hc0 HGL.out (by simp)) (Nat.lt_of_lt_of_le HGL.out hc0.size))
 have HC0 := hide hc0
 unfold insVal at HB
 clear hc0
 go_wp2_with fail
 go_at_call 82
 refine HB.out.mono ?_
 rintro e w1 ⟨⟨v, rfl⟩, hp⟩
 have HP := hide hp
 clear hp HB
 go_wp2
 refine bodyPost_end (results_none rfl _ _ _) rfl ?_
 exact ⟨⟨_, rfl⟩, CoreP.alloc HC0.out HP.out⟩
theorem six_at : ∀ (l : List (Ins5 × Bool)) (k : Nat) (x : Ins5 × Bool), l[k]? = some x → (rowCells l)[k * 6]? = some (.int .i64 x.1.op) ∧ (rowCells l)[k * 6 + 1]? = some (.int .i64 x.1.d) ∧ (rowCells l)[k * 6 + 2]? = some (.int .i64 x.1.a) ∧ (rowCells l)[k * 6 + 3]? = some (.int .i64 x.1.b) ∧ (rowCells l)[k * 6 + 4]? = some (.int .i64 x.1.n) ∧ (rowCells l)[k * 6 + 5]? = some (.bool x.2)
 | [], k, x, e => by simp at e
 | y :: l, 0, x, e => by simp at e; subst e; exact ⟨rfl, rfl, rfl, rfl, rfl, rfl⟩
 | y :: l, k + 1, x, e => by
  have := six_at l k x (by simpa using e)
  have hc : rowCells (y :: l) = (insCells y.1 ++ [.bool y.2]) ++ rowCells l := rfl
  rw [hc, show (k + 1) * 6 = k * 6 + 6 by omega]
  exact this
set_option maxRecDepth 100000 in
theorem clive_calls {w : World} {c : Nat} {b : Addr} {cv mv : Value} {code : List (Ins5 × Bool)} {s : CS} (h : CB w c (.pointer (some b)) cv mv code s) : Calls Tryz.prog 44 #[.pointer (some ⟨c, 0, none⟩)] w fun e w' => e = .returned (.bool true) ∧ w = w' := by
 have c0 := h.blk.cell' (i := 0) rfl
 clear h
 go_enter Tryz.func44, Tryz.ntmps44
 go_wp2
 go_ret
 exact ⟨rfl, rfl⟩
set_option maxRecDepth 100000 in
set_option maxHeartbeats 1000000 in
theorem step_still {w : World} {c : Nat} {b : Addr} {cv mv : Value} {code : List (Ins5 × Bool)} {s : CS} (h : CB w c (.pointer (some b)) cv mv code s) (hst : s.st ≠ 0) : Calls Tryz.prog 43 #[.pointer (some ⟨c, 0, none⟩)] w fun e w' => e = .returned (.bool false) ∧ w = w' := by
 have hl := clive_calls h
 have c35 := h.blk.cell' (@cc_at _ cv mv s h.reg).2.1
 have hx : (s.st != 0) = true := bne_iff_ne.2 hst
 generalize s.st = st at *
 clear h hst
 go_enter Tryz.func43, Tryz.ntmps43
 go_wp2_with (go_at_call 44; refine hl.mono ?_; rintro e w1 ⟨rfl, rfl⟩)
 go_ret
 exact ⟨rfl, rfl⟩
end Go.Proofs.YtjfnpokebaagmaaGreatDoor
