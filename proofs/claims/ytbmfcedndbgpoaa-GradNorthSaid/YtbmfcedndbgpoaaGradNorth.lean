/- GradNorth. -/
import Derived.Test.YtbmfcedndbgpoaaTop2
import Derived.Test.YtbmfcedndbgpoaaNorthLaw
namespace Go.Proofs.Ytbmfcedndbgpoaa
open Go.RowKit Go.Deep
set_option linter.unusedVariables false
theorem Z0v : Z0.v = 0 := rfl
set_option maxRecDepth 100000 in
set_option maxHeartbeats 4000000 in
theorem gradNorth_out (x z : Wd) (w : World) (h : x.v < 0 ∨ 536870912 < x.v ∨ z.v < -536870912 ∨ 536870912 < z.v) : Calls Try.prog 9 #[.int .i32 x.v, .int .i32 z.v] w fun e w' => e = .returned (.bool true) ∧ Chg w w' [] := by
  by_cases h1 : x.v < 0
  · clear h
    go_enter Try.func9, Try.ntmps9
    go_wp2_with fail
    refine (awake33_calls _).mono ?_
    rintro e w1 ⟨rfl, hc⟩
    have HC := hide hc
    clear hc
    go_wp2
    go_ret
    exact ⟨rfl, HC.out⟩
  by_cases h2 : 536870912 < x.v
  · clear h
    go_enter Try.func9, Try.ntmps9
    go_wp2_with fail
    refine (awake33_calls _).mono ?_
    rintro e w1 ⟨rfl, hc⟩
    have HC := hide hc
    clear hc
    go_wp2
    go_ret
    exact ⟨rfl, HC.out⟩
  by_cases h3 : z.v < -536870912
  · clear h
    go_enter Try.func9, Try.ntmps9
    go_wp2_with fail
    refine (awake33_calls _).mono ?_
    rintro e w1 ⟨rfl, hc⟩
    have HC := hide hc
    clear hc
    go_wp2
    go_ret
    exact ⟨rfl, HC.out⟩
  have h4 : 536870912 < z.v := by omega
  clear h
  go_enter Try.func9, Try.ntmps9
  go_wp2_with fail
  refine (awake33_calls _).mono ?_
  rintro e w1 ⟨rfl, hc⟩
  have HC := hide hc
  clear hc
  go_wp2
  go_ret
  exact ⟨rfl, HC.out⟩
set_option maxRecDepth 100000 in
set_option maxHeartbeats 4000000 in
theorem gradNorth_in (x z : Wd) (w : World) (hx : 0 ≤ x.v ∧ x.v ≤ 536870912) (hz : -536870912 ≤ z.v ∧ z.v ≤ 536870912) : Calls Try.prog 9 #[.int .i32 x.v, .int .i32 z.v] w fun e w' => e = .returned (.bool true) ∧ Chg w w' [] := by
  have h1 : ¬ x.v < 0 := by omega
  have h2 : ¬ 536870912 < x.v := by omega
  have h3 : ¬ z.v < -536870912 := by omega
  have h4 : ¬ 536870912 < z.v := by omega
  obtain ⟨g, hg, g0, g1⟩ := north_law x z hx hz
  have HG := hide hg
  have k1 : ¬ 32768 < g.v := by omega
  have k2 : ¬ g.v < -32768 := by omega
  clear hg hx hz g0 g1
  go_enter Try.func9, Try.ntmps9
  go_wp2_with fail
  refine (dmag_calls O0 Z0 Z0 Z0 x Z0 z _).mono ?_
  rw [HG.out]
  simp only [Z0v]
  rintro e w1 ⟨rfl, hc⟩
  have HC := hide hc
  clear hc
  go_wp2_with fail
  have nb := Blk.new w1 30 [.int .i32 0, .int .i32 0, .int .i32 g.v, .int .i32 0]
  have y0 := nb.cell' (i := 0) rfl
  have y1 := nb.cell' (i := 1) rfl
  have y2 := nb.cell' (i := 2) rfl
  have y3 := nb.cell' (i := 3) rfl
  have HC2 := hide (HC.out.trans ((Chg.refl w1 []).alloc (.cells #[.int .i32 0, .int .i32 0, .int .i32 g.v, .int .i32 0] 30)) (D := []) (by simp))
  clear nb HC
  generalize (w1.alloc (.cells #[.int .i32 0, .int .i32 0, .int .i32 g.v, .int .i32 0] 30)) = w2 at *
  generalize w1.heap.size = ub at *
  go_loop [6] (fun i => ∃ k : Nat, k ≤ 4 ∧ i = .int .i64 k) (fun i => 4 - (intOf i).toNat)
  case atStart => exact ⟨0, by omega, rfl⟩
  case round =>
    obtain ⟨k, hk, rfl⟩ := hrel
    rcases (by omega : k = 0 ∨ k = 1 ∨ k = 2 ∨ k = 3 ∨ k = 4) with rfl | rfl | rfl | rfl | rfl
    · go_wp2
      go_round
      case rel => exact ⟨1, by omega, by go_num⟩
      case measure => simp [intOf]
    · go_wp2
      go_round
      case rel => exact ⟨2, by omega, by go_num⟩
      case measure => simp [intOf]
    · go_wp2
      go_round
      case rel => exact ⟨3, by omega, by go_num⟩
      case measure => simp [intOf]
    · go_wp2
      go_round
      case rel => exact ⟨4, by omega, by go_num⟩
      case measure => simp [intOf]
    · go_wp2_with fail
      refine (awake33_calls _).mono ?_
      rintro e w3 ⟨rfl, hc⟩
      have HC3 := hide (HC2.out.trans hc (D := []) (by simp))
      clear hc
      go_wp2
      go_ret
      exact ⟨rfl, HC3.out⟩
theorem gradNorth_calls (x z : Wd) (w : World) : Calls Try.prog 9 #[.int .i32 x.v, .int .i32 z.v] w fun e w' => e = .returned (.bool true) ∧ Chg w w' [] := by
  by_cases h : x.v < 0 ∨ 536870912 < x.v ∨ z.v < -536870912 ∨ 536870912 < z.v
  · exact gradNorth_out x z w h
  · exact gradNorth_in x z w (by omega) (by omega)
end Go.Proofs.Ytbmfcedndbgpoaa
