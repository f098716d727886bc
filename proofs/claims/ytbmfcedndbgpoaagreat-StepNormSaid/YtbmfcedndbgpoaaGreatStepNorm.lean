/- StepNorm. -/
import Derived.Test.YtbmfcedndbgpoaaGreatStepLaws
namespace Go.Proofs.YtbmfcedndbgpoaaGreat
open Go.RowKit Go.Deep
set_option linter.unusedVariables false
/-- Element i of a list of samples reads as nine words. -/
def SampleAt (w : World) (A : Option Addr) (i : Nat) : Prop := ∃ (g off : Nat) (u0 u1 u2 a0 a1 a2 v0 v1 v2 : Wd), A = some ⟨g, off, none⟩ ∧ w.cell? ⟨g, off + i * 9, none⟩ = some (.int .i32 u0.v) ∧ w.cell? ⟨g, off + i * 9 + 1, none⟩ = some (.int .i32 u1.v) ∧ w.cell? ⟨g, off + i * 9 + 2, none⟩ = some (.int .i32 u2.v) ∧ w.cell? ⟨g, off + i * 9 + 3, none⟩ = some (.int .i32 a0.v) ∧ w.cell? ⟨g, off + i * 9 + 4, none⟩ = some (.int .i32 a1.v) ∧ w.cell? ⟨g, off + i * 9 + 5, none⟩ = some (.int .i32 a2.v) ∧ w.cell? ⟨g, off + i * 9 + 6, none⟩ = some (.int .i32 v0.v) ∧ w.cell? ⟨g, off + i * 9 + 7, none⟩ = some (.int .i32 v1.v) ∧ w.cell? ⟨g, off + i * 9 + 8, none⟩ = some (.int .i32 v2.v)
set_option maxRecDepth 100000 in
set_option maxHeartbeats 4000000 in
theorem stepNorm_calls (a b c d : Wd) (A : Option Addr) (len cap : Nat) (w : World) (hlen : len ≤ maxLen) (el : ∀ i, i < len → SampleAt w A i) :
    Calls Tryz.prog 9 #[.agg #[.int .i32 a.v, .int .i32 b.v, .int .i32 c.v, .int .i32 d.v], .slice A len cap] w fun e w' => e = .returned (.bool true) ∧ Chg w w' [] := by
  have k0 := Blk.new w 28 [.int .i32 a.v, .int .i32 b.v, .int .i32 c.v, .int .i32 d.v]
  have m0 := k0
  have g0_0 := m0.cell' (i := 0) rfl
  have g0_1 := m0.cell' (i := 1) rfl
  have g0_2 := m0.cell' (i := 2) rfl
  have g0_3 := m0.cell' (i := 3) rfl
  have HC := hide ((Chg.refl w []).alloc (.cells #[.int .i32 a.v, .int .i32 b.v, .int .i32 c.v, .int .i32 d.v] 28))
  clear k0
  have HR := hide m0
  clear m0
  have HE := hide el
  clear el
  unfold maxLen at hlen
  by_cases hq : IsQ a b c d
  · have HQ := hide hq
    clear hq
    by_cases h40 : 40 < len
    · have k40 : decide (40 < len) = true := by simpa using h40
      go_enter Tryz.func9, Tryz.ntmps9
      go_wp2_with fail
      generalize hw5 : (w.alloc (.cells #[.int .i32 a.v, .int .i32 b.v, .int .i32 c.v, .int .i32 d.v] 28)) = w5 at *
      clear hw5
      refine (is_calls a b c d _).mono ?_
      rw [isB_yes HQ.out]
      rintro e w6 ⟨rfl, hc⟩
      have HC6 := hide (HC.out.trans hc (D := []) (by simp))
      clear hc HC HR g0_0 g0_1 g0_2 g0_3 HE
      go_wp2_with fail
      refine (awake34_calls _).mono ?_
      rintro e w7 ⟨rfl, hc⟩
      have HC7 := hide (HC6.out.trans hc (D := []) (by simp))
      clear hc
      go_wp2
      go_ret
      exact ⟨rfl, HC7.out⟩
    · have k40 : decide (40 < len) = false := by simpa using h40
      go_enter Tryz.func9, Tryz.ntmps9
      go_wp2_with fail
      generalize hw5 : (w.alloc (.cells #[.int .i32 a.v, .int .i32 b.v, .int .i32 c.v, .int .i32 d.v] 28)) = w5 at *
      clear hw5
      refine (is_calls a b c d _).mono ?_
      rw [isB_yes HQ.out]
      rintro e w6 ⟨rfl, hc⟩
      have HC6 := hide (HC.out.trans hc (D := []) (by simp))
      have HR6 := hide (HR.out.chg hc (by simp))
      clear hc HC HR g0_0 g0_1 g0_2 g0_3
      go_wp2_with fail
      go_loopw [5] (fun i wr => ∃ k : Nat, k ≤ len ∧ i = .int .i64 k ∧ ∃ x0 x1 x2 x3 : Wd, Hid (IsQ x0 x1 x2 x3) ∧ Hid (Blk wr w.heap.size 28 [.int .i32 x0.v, .int .i32 x1.v, .int .i32 x2.v, .int .i32 x3.v]) ∧ Hid (Chg w wr [])) (fun i _ => len - (intOf i).toNat)
      case atStart => exact ⟨0, by omega, rfl, a, b, c, d, HQ, HR6, HC6⟩
      case round =>
        clear HR6 HC6 HQ
        obtain ⟨k, hk, rfl, x0, x1, x2, x3, HX, HB, HK⟩ := hrel
        have y0 := HB.out.cell' (i := 0) rfl
        have y1 := HB.out.cell' (i := 1) rfl
        have y2 := HB.out.cell' (i := 2) rfl
        have y3 := HB.out.cell' (i := 3) rfl
        by_cases hlt : k < len
        · obtain ⟨g, off, u0, u1, u2, a0, a1, a2, v0, v1, v2, rfl, e0, e1, e2, e3, e4, e5, e6, e7, e8⟩ := HE.out k hlt
          clear HE
          replace e0 := HK.out.cell e0 (by simp)
          replace e1 := HK.out.cell e1 (by simp)
          replace e2 := HK.out.cell e2 (by simp)
          replace e3 := HK.out.cell e3 (by simp)
          replace e4 := HK.out.cell e4 (by simp)
          replace e5 := HK.out.cell e5 (by simp)
          replace e6 := HK.out.cell e6 (by simp)
          replace e7 := HK.out.cell e7 (by simp)
          replace e8 := HK.out.cell e8 (by simp)
          obtain ⟨z0, z1, z2, z3, hs, hz, _, _, _, _⟩ := sensed_far x0 x1 x2 x3 u0 u1 u2 a0 a1 a2 v0 v1 v2 HX.out
          have HS := hide hs
          have HZ := hide hz
          clear hs hz
          go_wp2_with fail
          go_region_with ((go_at_call 36; refine (next_calls x0 x1 x2 x3 u0 u1 u2 a0 a1 a2 v0 v1 v2 _).mono ?_; rw [HS.out]; rintro e w9 ⟨rfl, hcX⟩; have HB9 := hide (HB.out.drew.chg hcX (by simp)); have HK9 := hide (HK.out.drew.trans hcX (D := []) (by simp)); have t0 := HB9.out.cell' (i := 0) rfl; have f0 := HB9.out.frozen 0; have t1 := HB9.out.cell' (i := 1) rfl; have f1 := HB9.out.frozen 1; have t2 := HB9.out.cell' (i := 2) rfl; have f2 := HB9.out.frozen 2; have t3 := HB9.out.cell' (i := 3) rfl; have f3 := HB9.out.frozen 3; skip))
          all_goals
            have hb4 := hide ((((HB9.out.set_ 0 (.int .i32 z0.v)).set_ 1 (.int .i32 z1.v)).set_ 2 (.int .i32 z2.v)).set_ 3 (.int .i32 z3.v))
            have HK4 := hide ((((HK9.out.setCell ⟨w.heap.size, 0, none⟩ (.int .i32 z0.v) (.inr (Nat.le_refl _))).setCell ⟨w.heap.size, 1, none⟩ (.int .i32 z1.v) (.inr (Nat.le_refl _))).setCell ⟨w.heap.size, 2, none⟩ (.int .i32 z2.v) (.inr (Nat.le_refl _))).setCell ⟨w.heap.size, 3, none⟩ (.int .i32 z3.v) (.inr (Nat.le_refl _)))
            generalize (World.setCell (World.setCell (World.setCell (World.setCell w9 _ _) _ _) _ _) _ _) = w10 at *
            have q0 := hb4.out.cell' (i := 0) rfl
            have q1 := hb4.out.cell' (i := 1) rfl
            have q2 := hb4.out.cell' (i := 2) rfl
            have q3 := hb4.out.cell' (i := 3) rfl
            go_wp2_with fail
            refine (is_calls z0 z1 z2 z3 _).mono ?_
            rw [isB_yes HZ.out]
            rintro e w11 ⟨rfl, hc⟩
            have hb5 := hide (hb4.out.chg hc (by simp))
            have HK5 := hide (HK4.out.trans hc (D := []) (by simp))
            clear hc
            go_wp2
            go_roundw
            case rel => exact ⟨k + 1, by omega, by go_num, z0, z1, z2, z3, HZ, hb5, HK5⟩
            case measure => simp [intOf]; omega
        · go_wp2_with fail
          refine (awake34_calls _).mono ?_
          rintro e w7 ⟨rfl, hc⟩
          have HC7 := hide (HK.out.trans hc (D := []) (by simp))
          clear hc
          go_wp2
          go_ret
          exact ⟨rfl, HC7.out⟩
  · have HQ := hide hq
    clear hq
    go_enter Tryz.func9, Tryz.ntmps9
    go_wp2_with fail
    generalize hw5 : (w.alloc (.cells #[.int .i32 a.v, .int .i32 b.v, .int .i32 c.v, .int .i32 d.v] 28)) = w5 at *
    clear hw5
    refine (is_calls a b c d _).mono ?_
    rw [isB_no HQ.out]
    rintro e w6 ⟨rfl, hc⟩
    have HC6 := hide (HC.out.trans hc (D := []) (by simp))
    clear hc HC HR g0_0 g0_1 g0_2 g0_3 HE
    go_wp2_with fail
    refine (awake34_calls _).mono ?_
    rintro e w7 ⟨rfl, hc⟩
    have HC7 := hide (HC6.out.trans hc (D := []) (by simp))
    clear hc
    go_wp2
    go_ret
    exact ⟨rfl, HC7.out⟩
end Go.Proofs.YtbmfcedndbgpoaaGreat
