/- The core: Run, State, Reg. -/
import Derived.Test.YtjfnpokebaagmaaGreatDoorBL4
namespace Go.Proofs.YtjfnpokebaagmaaGreatDoor
open Go.RowKit Go.Deep Go.Maps
set_option linter.unusedVariables false
attribute [local go_sem] Oper.semAt_some
def CoreS (w : World) (c : Nat) (b : Addr) (cv mv : Value) (code : List (Ins5 × Bool)) (w' : World) (s : CS) : Prop :=
 Chg w w' ([c] ++ mv.ownBlock.toList) ∧ ∃ mv', (mv'.ownBlock = mv.ownBlock ∨ ∃ g, mv'.ownBlock = some g ∧ w.heap.size ≤ g) ∧ CB w' c (.pointer (some b)) cv mv' code s ∧ CEnv w' c cv mv'
set_option maxRecDepth 100000 in
set_option maxHeartbeats 1000000 in
theorem run_calls {w : World} {c : Nat} {b : Addr} {cv mv : Value} {code : List (Ins5 × Bool)} {s : CS} (h : CB w c (.pointer (some b)) cv mv code s) (he : CEnv w c cv mv) (hl : code.length ≤ 100000)
 (N fuel : Nat) (it : Nat → CS) (h0 : it 0 = s) (hst : ∀ j, j < N → Stp code (it j) (it (j + 1))) (hend : (it N).st ≠ 0) (hN : N < fuel) (hf : fuel ≤ 1048576) (hm : ∀ j, j ≤ N → (it j).marks.length ≤ 2000000) :
 Calls Tryz.prog 18 #[.pointer (some ⟨c, 0, none⟩), .int .i64 fuel] w fun e w' => e = .returned (.int .i64 N) ∧ CoreS w c b cv mv code w' (it N) := by
 have H : Hid (CoreS w c b cv mv code w (it 0)) := hide ⟨Chg.refl _ _, mv, .inl rfl, by rw [h0]; exact h, he⟩
 have HST := hide hst
 have HM := hide hm
 have HE := hide hend
 clear h he h0 hst hm hend
 have hmin : min (fuel : Int) 1048576 = fuel := by omega
 go_enter Tryz.func18, Tryz.ntmps18
 go_wp2
 go_loopw [5] (fun i wr => ∃ j : Nat, j ≤ N ∧ i = .int .i64 j ∧ Hid (CoreS w c b cv mv code wr (it j))) (fun i _ => N + 1 - (intOf i).toNat)
 case atStart => exact ⟨0, Nat.zero_le _, rfl, H⟩
 case round =>
  obtain ⟨j, hj, rfl, HC⟩ := hrel
  obtain ⟨hc, mv', hmv, hb, hce⟩ := HC.out
  have hjf : decide ((j : Int) < (fuel : Int)) = true := by simp; omega
  by_cases hlt : j < N
  · have hsg := step_good hb hce (HST.out j hlt) (HM.out j (by omega)) hl
    have HSG := hide hsg
    have HX := hide hc
    have HV := hide hmv
    have HCE := hide hce
    clear hsg hc hmv hb hce
    go_wp2_with fail
    go_at_call 43
    refine HSG.out.mono ?_
    rintro e w1 ⟨rfl, hc1, mv1, hm1, hb1⟩
    have HN : Hid (CoreS w c b cv mv code w1 (it (j + 1))) := hide (by
     have hp := CoreP.step HX.out HV.out (⟨hc1, mv1, hm1, hb1⟩ : CoreP (it (j + 1)) c (.pointer (some b)) cv mv' code wr w1)
     have hce1 := HCE.out.core (bp := .pointer (some b)) (code := code) (s := it (j + 1)) hc1 hm1
     refine ⟨hp.1, mv1, ?_, hb1, hce1⟩
     rcases hm1 with h | ⟨g, h, hg⟩
     · rcases HV.out with h' | ⟨g', h', hg'⟩
       · exact .inl (h.trans h')
       · exact .inr ⟨g', h.trans h', hg'⟩
     · exact .inr ⟨g, h, Nat.le_trans HX.out.size hg⟩)
    clear hc1 hm1 hb1 HSG
    go_wp2
    go_roundw
    case rel => exact ⟨j + 1, by omega, by go_num, HN⟩
    case measure => simp [intOf]; omega
  · obtain rfl : j = N := by omega
    have hss := step_still hb HE.out
    clear hc hmv hb hce
    go_wp2_with fail
    go_at_call 43
    refine hss.mono ?_
    rintro e w1 ⟨rfl, rfl⟩
    go_wp2
    go_ret
    exact ⟨rfl, HC.out⟩
set_option maxRecDepth 100000 in
theorem cstate_calls {w : World} {c : Nat} {b : Addr} {cv mv : Value} {code : List (Ins5 × Bool)} {s : CS} (h : CB w c (.pointer (some b)) cv mv code s) : Calls Tryz.prog 19 #[.pointer (some ⟨c, 0, none⟩)] w fun e w' => e = .returned (.int .i64 s.st) ∧ w = w' := by
 have hl := clive_calls h
 have c35 := h.blk.cell' (@cc_at _ cv mv s h.reg).2.1
 clear h
 go_enter Tryz.func19, Tryz.ntmps19
 go_wp2_with (go_at_call 44; refine hl.mono ?_; rintro e w1 ⟨rfl, rfl⟩)
 go_ret
 exact ⟨rfl, rfl⟩
set_option maxRecDepth 100000 in
theorem creg_calls {w : World} {c : Nat} {b : Addr} {cv mv : Value} {code : List (Ins5 × Bool)} {s : CS} (h : CB w c (.pointer (some b)) cv mv code s) (i : Nat) (hi : i < 32) : Calls Tryz.prog 20 #[.pointer (some ⟨c, 0, none⟩), .int .i64 i] w fun e w' => e = .returned (.int .i32 (regC s i)) ∧ w = w' := by
 have hl := clive_calls h
 have hca := h.blk.cell' (cc_reg h.reg i hi)
 have hlt := h.blk.lt
 have hx1 : decide ((i : Int) < 0) = false := by simp
 have hx2 : decide ((32 : Int) ≤ (i : Int)) = false := by simp; omega
 have hi2 : (i : Int) < 32 := by omega
 unfold regC
 generalize s.regs.getD i 0 = r at *
 clear h
 go_enter Tryz.func20, Tryz.ntmps20
 go_wp2_with (go_at_call 44; refine hl.mono ?_; rintro e w1 ⟨rfl, rfl⟩)
 go_ret
 exact ⟨rfl, rfl⟩
end Go.Proofs.YtjfnpokebaagmaaGreatDoor
