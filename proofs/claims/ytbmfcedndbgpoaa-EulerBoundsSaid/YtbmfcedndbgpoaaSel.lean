/- Sel and Flip. -/
import Derived.Test.YtbmfcedndbgpoaaIn32
namespace Go.Proofs.Ytbmfcedndbgpoaa
open Go.RowKit Go.Deep
set_option linter.unusedVariables false

set_option maxRecDepth 100000 in
set_option maxHeartbeats 2000000 in
theorem work_flip (p : Addr) (x m : Int) (w : World) (hx : In32 x) (hm : In32 m) :
    Calls Try.prog 73 #[wk p, .int .i32 x, .int .i32 m] w fun e w' => e = .returned (.int .i32 (flipI x m)) ∧ Chg w w' [] := by
  have g0 := (Blk.new w 42 [.iface 52 (.pointer (some p))]).cell' (i := 0) rfl
  have HC := hide ((Chg.refl w []).alloc (.cells #[.iface 52 (.pointer (some p))] 42))
  have k1 : Hid (∀ W : World, Calls Try.prog 76 #[.agg #[.iface 52 (.pointer (some p))], .int .i32 x, .int .i32 m] W fun e w' => e = .returned (.int .i32 (xorI x m)) ∧ Chg W w' []) := hide (fun W => work_xor p x m W hx hm)
  have k2 : Hid (∀ W : World, Calls Try.prog 47 #[.agg #[.iface 52 (.pointer (some p))], .int .i32 (xorI x m), .int .i32 m] W fun e w' => e = .returned (.int .i32 (flipI x m)) ∧ Chg W w' []) := hide (fun W => work_sub p (xorI x m) m W (in_xor _ _) hm)
  unfold wk
  go_enter Try.func73, Try.ntmps73
  go_wp2_with fail
  generalize (w.alloc (.cells #[.iface 52 (.pointer (some p))] 42)) = w6 at *
  go_region_held3 (fun w' => Chg w6 w' [] ∧ w'.cell? ⟨w.heap.size, 0, none⟩ = some (.iface 52 (.pointer (some p))))
    (first | exact ⟨(Chg.refl w6 []).drew, g0⟩ | exact keepU hcX (by assumption))
    (first | (go_at_call 76; refine (k1.out _).mono ?_; rintro e w7 ⟨rfl, hcX⟩) | (go_at_call 47; refine (k2.out _).mono ?_; rintro e w7 ⟨rfl, hcX⟩))
  have hlast := ‹Chg w6 _ [] ∧ _›
  go_wp2
  go_ret
  exact ⟨rfl, HC.out.trans hlast.1 (by simp)⟩

set_option maxRecDepth 100000 in
set_option maxHeartbeats 2000000 in
theorem work_sel (p : Addr) (m a b : Int) (w : World) (hm : In32 m) (ha : In32 a) (hb : In32 b) :
    Calls Try.prog 74 #[wk p, .int .i32 m, .int .i32 a, .int .i32 b] w fun e w' => e = .returned (.int .i32 (selI m a b)) ∧ Chg w w' [] := by
  have g0 := (Blk.new w 42 [.iface 52 (.pointer (some p))]).cell' (i := 0) rfl
  have HC := hide ((Chg.refl w []).alloc (.cells #[.iface 52 (.pointer (some p))] 42))
  have k1 : Hid (∀ W : World, Calls Try.prog 60 #[.agg #[.iface 52 (.pointer (some p))], .int .i32 a, .int .i32 m] W fun e w' => e = .returned (.int .i32 (andI a m)) ∧ Chg W w' []) := hide (fun W => work_and p a m W ha hm)
  have k2 : Hid (∀ W : World, Calls Try.prog 77 #[.agg #[.iface 52 (.pointer (some p))], .int .i32 b, .int .i32 m] W fun e w' => e = .returned (.int .i32 (bicI b m)) ∧ Chg W w' []) := hide (fun W => work_bic p b m W hb hm)
  have k3 : Hid (∀ W : World, Calls Try.prog 58 #[.agg #[.iface 52 (.pointer (some p))], .int .i32 (andI a m), .int .i32 (bicI b m)] W fun e w' => e = .returned (.int .i32 (selI m a b)) ∧ Chg W w' []) := hide (fun W => work_or p _ _ W (in_and _ _) (in_bic _ _))
  unfold wk
  go_enter Try.func74, Try.ntmps74
  go_wp2_with fail
  generalize (w.alloc (.cells #[.iface 52 (.pointer (some p))] 42)) = w6 at *
  go_region_held3 (fun w' => Chg w6 w' [] ∧ w'.cell? ⟨w.heap.size, 0, none⟩ = some (.iface 52 (.pointer (some p))))
    (first | exact ⟨(Chg.refl w6 []).drew, g0⟩ | exact keepU hcX (by assumption))
    (first | (go_at_call 60; refine (k1.out _).mono ?_; rintro e w7 ⟨rfl, hcX⟩) | (go_at_call 77; refine (k2.out _).mono ?_; rintro e w7 ⟨rfl, hcX⟩) | (go_at_call 58; refine (k3.out _).mono ?_; rintro e w7 ⟨rfl, hcX⟩))
  have hlast := ‹Chg w6 _ [] ∧ _›
  go_wp2
  go_ret
  exact ⟨rfl, HC.out.trans hlast.1 (by simp)⟩

end Go.Proofs.Ytbmfcedndbgpoaa
