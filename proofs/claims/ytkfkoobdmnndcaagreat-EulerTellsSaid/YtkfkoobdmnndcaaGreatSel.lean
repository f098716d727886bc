/- Sel and Flip. -/
import Derived.Test.YtkfkoobdmnndcaaGreatIn32
namespace Go.Proofs.YtkfkoobdmnndcaaGreat
open Go.RowKit Go.Deep
set_option linter.unusedVariables false

set_option maxRecDepth 100000 in
set_option maxHeartbeats 2000000 in
theorem work_flip (p : Addr) (x m : Int) (w : World) (hx : In32 x) (hm : In32 m) :
    Calls Tryz.prog 112 #[wk p, .int .i32 x, .int .i32 m] w fun e w' => e = .returned (.int .i32 (flipI x m)) ∧ Chg w w' [] := by
  have g0 := (Blk.new w 40 [.iface 59 (.pointer (some p))]).cell' (i := 0) rfl
  have HC := hide ((Chg.refl w []).alloc (.cells #[.iface 59 (.pointer (some p))] 40))
  have k1 : Hid (∀ W : World, Calls Tryz.prog 119 #[.agg #[.iface 59 (.pointer (some p))], .int .i32 x, .int .i32 m] W fun e w' => e = .returned (.int .i32 (xorI x m)) ∧ Chg W w' []) := hide (fun W => work_xor p x m W hx hm)
  have k2 : Hid (∀ W : World, Calls Tryz.prog 76 #[.agg #[.iface 59 (.pointer (some p))], .int .i32 (xorI x m), .int .i32 m] W fun e w' => e = .returned (.int .i32 (flipI x m)) ∧ Chg W w' []) := hide (fun W => work_sub p (xorI x m) m W (in_xor _ _) hm)
  unfold wk
  go_enter Tryz.func112, Tryz.ntmps112
  go_wp2_with fail
  generalize (w.alloc (.cells #[.iface 59 (.pointer (some p))] 40)) = w6 at *
  go_region_held3 (fun w' => Chg w6 w' [] ∧ w'.cell? ⟨w.heap.size, 0, none⟩ = some (.iface 59 (.pointer (some p))))
    (first | exact ⟨(Chg.refl w6 []).drew, g0⟩ | exact keepU hcX (by assumption))
    (first | (go_at_call 119; refine (k1.out _).mono ?_; rintro e w7 ⟨rfl, hcX⟩) | (go_at_call 76; refine (k2.out _).mono ?_; rintro e w7 ⟨rfl, hcX⟩))
  have hlast := ‹Chg w6 _ [] ∧ _›
  go_wp2
  go_ret
  exact ⟨rfl, HC.out.trans hlast.1 (by simp)⟩

set_option maxRecDepth 100000 in
set_option maxHeartbeats 2000000 in
theorem work_sel (p : Addr) (m a b : Int) (w : World) (hm : In32 m) (ha : In32 a) (hb : In32 b) :
    Calls Tryz.prog 114 #[wk p, .int .i32 m, .int .i32 a, .int .i32 b] w fun e w' => e = .returned (.int .i32 (selI m a b)) ∧ Chg w w' [] := by
  have g0 := (Blk.new w 40 [.iface 59 (.pointer (some p))]).cell' (i := 0) rfl
  have HC := hide ((Chg.refl w []).alloc (.cells #[.iface 59 (.pointer (some p))] 40))
  have k1 : Hid (∀ W : World, Calls Tryz.prog 99 #[.agg #[.iface 59 (.pointer (some p))], .int .i32 a, .int .i32 m] W fun e w' => e = .returned (.int .i32 (andI a m)) ∧ Chg W w' []) := hide (fun W => work_and p a m W ha hm)
  have k2 : Hid (∀ W : World, Calls Tryz.prog 120 #[.agg #[.iface 59 (.pointer (some p))], .int .i32 b, .int .i32 m] W fun e w' => e = .returned (.int .i32 (bicI b m)) ∧ Chg W w' []) := hide (fun W => work_bic p b m W hb hm)
  have k3 : Hid (∀ W : World, Calls Tryz.prog 97 #[.agg #[.iface 59 (.pointer (some p))], .int .i32 (andI a m), .int .i32 (bicI b m)] W fun e w' => e = .returned (.int .i32 (selI m a b)) ∧ Chg W w' []) := hide (fun W => work_or p _ _ W (in_and _ _) (in_bic _ _))
  unfold wk
  go_enter Tryz.func114, Tryz.ntmps114
  go_wp2_with fail
  generalize (w.alloc (.cells #[.iface 59 (.pointer (some p))] 40)) = w6 at *
  go_region_held3 (fun w' => Chg w6 w' [] ∧ w'.cell? ⟨w.heap.size, 0, none⟩ = some (.iface 59 (.pointer (some p))))
    (first | exact ⟨(Chg.refl w6 []).drew, g0⟩ | exact keepU hcX (by assumption))
    (first | (go_at_call 99; refine (k1.out _).mono ?_; rintro e w7 ⟨rfl, hcX⟩) | (go_at_call 120; refine (k2.out _).mono ?_; rintro e w7 ⟨rfl, hcX⟩) | (go_at_call 97; refine (k3.out _).mono ?_; rintro e w7 ⟨rfl, hcX⟩))
  have hlast := ‹Chg w6 _ [] ∧ _›
  go_wp2
  go_ret
  exact ⟨rfl, HC.out.trans hlast.1 (by simp)⟩

end Go.Proofs.YtkfkoobdmnndcaaGreat
