/- GateTurns. -/
import Derived.Test.YtbmfcedndbgpoaaGateLaw
namespace Go.Proofs.Ytbmfcedndbgpoaa
open Go.RowKit Go.Deep
set_option linter.unusedVariables false
def ngW (x : Wd) : Wd := ⟨wrap32 (-x.v), in_wrap _⟩
theorem square_ng (s t : Bool) (a b c : Wd) : squareW (cond s (ngW b) b) c (cond t (ngW a) a) = squareW a b c := by
  have hb : mulW (cond s (ngW b) b) (cond s (ngW b) b) = mulW b b := by cases s; rfl; exact mul_neg b
  have ha : mulW (cond t (ngW a) a) (cond t (ngW a) a) = mulW a a := by cases t; rfl; exact mul_neg a
  unfold squareW
  rw [hb, ha]
  exact add_rot _ _ _
set_option maxRecDepth 100000 in
set_option maxHeartbeats 4000000 in
theorem turns_ff (a b c : Wd) (k : Int) (hk : 0 ≤ k ∧ k ≤ 255) (h1 : (k % 2 == 1) = false) (h2 : decide (1 < k % 4) = false) (w : World) :
    Calls Try.prog 5 #[.agg #[.int .i32 a.v, .int .i32 b.v, .int .i32 c.v], .int .u8 k] w fun e w' => e = .returned (.bool true) ∧ Chg w w' [] := by
  have k0 := Blk.new w 22 [.int .i32 a.v, .int .i32 b.v, .int .i32 c.v]
  have m0 := (k0.alloc (.cells #[.int .i32 b.v, .int .i32 c.v, .int .i32 a.v] 22))
  have g0_0 := m0.cell' (i := 0) rfl
  have g0_1 := m0.cell' (i := 1) rfl
  have g0_2 := m0.cell' (i := 2) rfl
  have k1 := Blk.new (w.alloc (.cells #[.int .i32 a.v, .int .i32 b.v, .int .i32 c.v] 22)) 22 [.int .i32 b.v, .int .i32 c.v, .int .i32 a.v]
  have m1 := k1
  simp only [size_alloc] at m1
  have g1_0 := m1.cell' (i := 0) rfl
  have g1_1 := m1.cell' (i := 1) rfl
  have g1_2 := m1.cell' (i := 2) rfl
  have HC := hide (((Chg.refl w []).alloc (.cells #[.int .i32 a.v, .int .i32 b.v, .int .i32 c.v] 22)).alloc (.cells #[.int .i32 b.v, .int .i32 c.v, .int .i32 a.v] 22))
  clear k0 k1
  have sq : squareW b c a = squareW a b c := square_ng false false a b c
  clear m0 m1
  have hk1 := hk.1
  have hk2 := hk.2
  have SQ := hide sq
  clear sq
  go_enter Try.func5, Try.ntmps5
  go_wp2_with fail
  generalize ((w.alloc (.cells #[.int .i32 a.v, .int .i32 b.v, .int .i32 c.v] 22)).alloc (.cells #[.int .i32 b.v, .int .i32 c.v, .int .i32 a.v] 22)) = w6 at *
  go_region_held3 (fun w' => Chg w6 w' [] ∧ w'.cell? ⟨w.heap.size, 0, none⟩ = some (.int .i32 a.v) ∧ w'.cell? ⟨w.heap.size, 1, none⟩ = some (.int .i32 b.v) ∧ w'.cell? ⟨w.heap.size, 2, none⟩ = some (.int .i32 c.v) ∧ w'.cell? ⟨w.heap.size + 1, 0, none⟩ = some (.int .i32 b.v) ∧ w'.cell? ⟨w.heap.size + 1, 1, none⟩ = some (.int .i32 c.v) ∧ w'.cell? ⟨w.heap.size + 1, 2, none⟩ = some (.int .i32 a.v))
    (first | exact ⟨(Chg.refl w6 []).drew, g0_0, g0_1, g0_2, g1_0, g1_1, g1_2⟩ | exact keep6 hcX (by assumption))
    (first | (go_at_call 12; refine (gnorm_calls _ _ _ _).mono ?_; (first | rw [SQ.out] | skip); rintro e w8 ⟨rfl, hcX⟩) | (go_at_call 13; refine (accel_calls _ _ _ _).mono ?_; (first | rw [SQ.out] | skip); rintro e w8 ⟨rfl, hcX⟩) | (go_at_call 14; refine (mag_calls _ _ _ _).mono ?_; (first | rw [SQ.out] | skip); rintro e w8 ⟨rfl, hcX⟩) | (go_at_call 11; refine (awake32_calls _).mono ?_; rintro e w8 ⟨rfl, hcX⟩))
  have hlast := ‹Chg w6 _ [] ∧ _›
  go_wp2
  go_ret
  exact ⟨rfl, HC.out.trans hlast.1 (by simp)⟩
set_option maxRecDepth 100000 in
set_option maxHeartbeats 4000000 in
theorem turns_ft (a b c : Wd) (k : Int) (hk : 0 ≤ k ∧ k ≤ 255) (h1 : (k % 2 == 1) = false) (h2 : decide (1 < k % 4) = true) (w : World) :
    Calls Try.prog 5 #[.agg #[.int .i32 a.v, .int .i32 b.v, .int .i32 c.v], .int .u8 k] w fun e w' => e = .returned (.bool true) ∧ Chg w w' [] := by
  have k0 := Blk.new w 22 [.int .i32 a.v, .int .i32 b.v, .int .i32 c.v]
  have m0 := (k0.alloc (.cells #[.int .i32 b.v, .int .i32 c.v, .int .i32 (wrap32 (-a.v))] 22))
  have g0_0 := m0.cell' (i := 0) rfl
  have g0_1 := m0.cell' (i := 1) rfl
  have g0_2 := m0.cell' (i := 2) rfl
  have k1 := Blk.new (w.alloc (.cells #[.int .i32 a.v, .int .i32 b.v, .int .i32 c.v] 22)) 22 [.int .i32 b.v, .int .i32 c.v, .int .i32 (wrap32 (-a.v))]
  have m1 := k1
  simp only [size_alloc] at m1
  have g1_0 := m1.cell' (i := 0) rfl
  have g1_1 := m1.cell' (i := 1) rfl
  have g1_2 := m1.cell' (i := 2) rfl
  have HC := hide (((Chg.refl w []).alloc (.cells #[.int .i32 a.v, .int .i32 b.v, .int .i32 c.v] 22)).alloc (.cells #[.int .i32 b.v, .int .i32 c.v, .int .i32 (wrap32 (-a.v))] 22))
  clear k0 k1
  have sq : squareW b c (ngW a) = squareW a b c := square_ng false true a b c
  clear m0 m1
  have hk1 := hk.1
  have hk2 := hk.2
  have SQ := hide sq
  clear sq
  go_enter Try.func5, Try.ntmps5
  go_wp2_with fail
  generalize ((w.alloc (.cells #[.int .i32 a.v, .int .i32 b.v, .int .i32 c.v] 22)).alloc (.cells #[.int .i32 b.v, .int .i32 c.v, .int .i32 (wrap32 (-a.v))] 22)) = w6 at *
  go_region_held3 (fun w' => Chg w6 w' [] ∧ w'.cell? ⟨w.heap.size, 0, none⟩ = some (.int .i32 a.v) ∧ w'.cell? ⟨w.heap.size, 1, none⟩ = some (.int .i32 b.v) ∧ w'.cell? ⟨w.heap.size, 2, none⟩ = some (.int .i32 c.v) ∧ w'.cell? ⟨w.heap.size + 1, 0, none⟩ = some (.int .i32 b.v) ∧ w'.cell? ⟨w.heap.size + 1, 1, none⟩ = some (.int .i32 c.v) ∧ w'.cell? ⟨w.heap.size + 1, 2, none⟩ = some (.int .i32 (ngW a).v))
    (first | exact ⟨(Chg.refl w6 []).drew, g0_0, g0_1, g0_2, g1_0, g1_1, g1_2⟩ | exact keep6 hcX (by assumption))
    (first | (go_at_call 12; refine (gnorm_calls _ _ _ _).mono ?_; (first | rw [SQ.out] | skip); rintro e w8 ⟨rfl, hcX⟩) | (go_at_call 13; refine (accel_calls _ _ _ _).mono ?_; (first | rw [SQ.out] | skip); rintro e w8 ⟨rfl, hcX⟩) | (go_at_call 14; refine (mag_calls _ _ _ _).mono ?_; (first | rw [SQ.out] | skip); rintro e w8 ⟨rfl, hcX⟩) | (go_at_call 11; refine (awake32_calls _).mono ?_; rintro e w8 ⟨rfl, hcX⟩))
  have hlast := ‹Chg w6 _ [] ∧ _›
  go_wp2
  go_ret
  exact ⟨rfl, HC.out.trans hlast.1 (by simp)⟩
set_option maxRecDepth 100000 in
set_option maxHeartbeats 4000000 in
theorem turns_tf (a b c : Wd) (k : Int) (hk : 0 ≤ k ∧ k ≤ 255) (h1 : (k % 2 == 1) = true) (h2 : decide (1 < k % 4) = false) (w : World) :
    Calls Try.prog 5 #[.agg #[.int .i32 a.v, .int .i32 b.v, .int .i32 c.v], .int .u8 k] w fun e w' => e = .returned (.bool true) ∧ Chg w w' [] := by
  have k0 := Blk.new w 22 [.int .i32 a.v, .int .i32 b.v, .int .i32 c.v]
  have m0 := (k0.alloc (.cells #[.int .i32 (wrap32 (-b.v)), .int .i32 c.v, .int .i32 a.v] 22))
  have g0_0 := m0.cell' (i := 0) rfl
  have g0_1 := m0.cell' (i := 1) rfl
  have g0_2 := m0.cell' (i := 2) rfl
  have k1 := Blk.new (w.alloc (.cells #[.int .i32 a.v, .int .i32 b.v, .int .i32 c.v] 22)) 22 [.int .i32 (wrap32 (-b.v)), .int .i32 c.v, .int .i32 a.v]
  have m1 := k1
  simp only [size_alloc] at m1
  have g1_0 := m1.cell' (i := 0) rfl
  have g1_1 := m1.cell' (i := 1) rfl
  have g1_2 := m1.cell' (i := 2) rfl
  have HC := hide (((Chg.refl w []).alloc (.cells #[.int .i32 a.v, .int .i32 b.v, .int .i32 c.v] 22)).alloc (.cells #[.int .i32 (wrap32 (-b.v)), .int .i32 c.v, .int .i32 a.v] 22))
  clear k0 k1
  have sq : squareW (ngW b) c a = squareW a b c := square_ng true false a b c
  clear m0 m1
  have hk1 := hk.1
  have hk2 := hk.2
  have SQ := hide sq
  clear sq
  go_enter Try.func5, Try.ntmps5
  go_wp2_with fail
  generalize ((w.alloc (.cells #[.int .i32 a.v, .int .i32 b.v, .int .i32 c.v] 22)).alloc (.cells #[.int .i32 (wrap32 (-b.v)), .int .i32 c.v, .int .i32 a.v] 22)) = w6 at *
  go_region_held3 (fun w' => Chg w6 w' [] ∧ w'.cell? ⟨w.heap.size, 0, none⟩ = some (.int .i32 a.v) ∧ w'.cell? ⟨w.heap.size, 1, none⟩ = some (.int .i32 b.v) ∧ w'.cell? ⟨w.heap.size, 2, none⟩ = some (.int .i32 c.v) ∧ w'.cell? ⟨w.heap.size + 1, 0, none⟩ = some (.int .i32 (ngW b).v) ∧ w'.cell? ⟨w.heap.size + 1, 1, none⟩ = some (.int .i32 c.v) ∧ w'.cell? ⟨w.heap.size + 1, 2, none⟩ = some (.int .i32 a.v))
    (first | exact ⟨(Chg.refl w6 []).drew, g0_0, g0_1, g0_2, g1_0, g1_1, g1_2⟩ | exact keep6 hcX (by assumption))
    (first | (go_at_call 12; refine (gnorm_calls _ _ _ _).mono ?_; (first | rw [SQ.out] | skip); rintro e w8 ⟨rfl, hcX⟩) | (go_at_call 13; refine (accel_calls _ _ _ _).mono ?_; (first | rw [SQ.out] | skip); rintro e w8 ⟨rfl, hcX⟩) | (go_at_call 14; refine (mag_calls _ _ _ _).mono ?_; (first | rw [SQ.out] | skip); rintro e w8 ⟨rfl, hcX⟩) | (go_at_call 11; refine (awake32_calls _).mono ?_; rintro e w8 ⟨rfl, hcX⟩))
  have hlast := ‹Chg w6 _ [] ∧ _›
  go_wp2
  go_ret
  exact ⟨rfl, HC.out.trans hlast.1 (by simp)⟩
set_option maxRecDepth 100000 in
set_option maxHeartbeats 4000000 in
theorem turns_tt (a b c : Wd) (k : Int) (hk : 0 ≤ k ∧ k ≤ 255) (h1 : (k % 2 == 1) = true) (h2 : decide (1 < k % 4) = true) (w : World) :
    Calls Try.prog 5 #[.agg #[.int .i32 a.v, .int .i32 b.v, .int .i32 c.v], .int .u8 k] w fun e w' => e = .returned (.bool true) ∧ Chg w w' [] := by
  have k0 := Blk.new w 22 [.int .i32 a.v, .int .i32 b.v, .int .i32 c.v]
  have m0 := (k0.alloc (.cells #[.int .i32 (wrap32 (-b.v)), .int .i32 c.v, .int .i32 (wrap32 (-a.v))] 22))
  have g0_0 := m0.cell' (i := 0) rfl
  have g0_1 := m0.cell' (i := 1) rfl
  have g0_2 := m0.cell' (i := 2) rfl
  have k1 := Blk.new (w.alloc (.cells #[.int .i32 a.v, .int .i32 b.v, .int .i32 c.v] 22)) 22 [.int .i32 (wrap32 (-b.v)), .int .i32 c.v, .int .i32 (wrap32 (-a.v))]
  have m1 := k1
  simp only [size_alloc] at m1
  have g1_0 := m1.cell' (i := 0) rfl
  have g1_1 := m1.cell' (i := 1) rfl
  have g1_2 := m1.cell' (i := 2) rfl
  have HC := hide (((Chg.refl w []).alloc (.cells #[.int .i32 a.v, .int .i32 b.v, .int .i32 c.v] 22)).alloc (.cells #[.int .i32 (wrap32 (-b.v)), .int .i32 c.v, .int .i32 (wrap32 (-a.v))] 22))
  clear k0 k1
  have sq : squareW (ngW b) c (ngW a) = squareW a b c := square_ng true true a b c
  clear m0 m1
  have hk1 := hk.1
  have hk2 := hk.2
  have SQ := hide sq
  clear sq
  go_enter Try.func5, Try.ntmps5
  go_wp2_with fail
  generalize ((w.alloc (.cells #[.int .i32 a.v, .int .i32 b.v, .int .i32 c.v] 22)).alloc (.cells #[.int .i32 (wrap32 (-b.v)), .int .i32 c.v, .int .i32 (wrap32 (-a.v))] 22)) = w6 at *
  go_region_held3 (fun w' => Chg w6 w' [] ∧ w'.cell? ⟨w.heap.size, 0, none⟩ = some (.int .i32 a.v) ∧ w'.cell? ⟨w.heap.size, 1, none⟩ = some (.int .i32 b.v) ∧ w'.cell? ⟨w.heap.size, 2, none⟩ = some (.int .i32 c.v) ∧ w'.cell? ⟨w.heap.size + 1, 0, none⟩ = some (.int .i32 (ngW b).v) ∧ w'.cell? ⟨w.heap.size + 1, 1, none⟩ = some (.int .i32 c.v) ∧ w'.cell? ⟨w.heap.size + 1, 2, none⟩ = some (.int .i32 (ngW a).v))
    (first | exact ⟨(Chg.refl w6 []).drew, g0_0, g0_1, g0_2, g1_0, g1_1, g1_2⟩ | exact keep6 hcX (by assumption))
    (first | (go_at_call 12; refine (gnorm_calls _ _ _ _).mono ?_; (first | rw [SQ.out] | skip); rintro e w8 ⟨rfl, hcX⟩) | (go_at_call 13; refine (accel_calls _ _ _ _).mono ?_; (first | rw [SQ.out] | skip); rintro e w8 ⟨rfl, hcX⟩) | (go_at_call 14; refine (mag_calls _ _ _ _).mono ?_; (first | rw [SQ.out] | skip); rintro e w8 ⟨rfl, hcX⟩) | (go_at_call 11; refine (awake32_calls _).mono ?_; rintro e w8 ⟨rfl, hcX⟩))
  have hlast := ‹Chg w6 _ [] ∧ _›
  go_wp2
  go_ret
  exact ⟨rfl, HC.out.trans hlast.1 (by simp)⟩
theorem gateTurns_calls (a b c : Wd) (k : Int) (hk : 0 ≤ k ∧ k ≤ 255) (w : World) :
    Calls Try.prog 5 #[.agg #[.int .i32 a.v, .int .i32 b.v, .int .i32 c.v], .int .u8 k] w fun e w' => e = .returned (.bool true) ∧ Chg w w' [] := by
  cases h1 : (k % 2 == 1) <;> cases h2 : decide (1 < k % 4)
  · exact turns_ff a b c k hk h1 h2 w
  · exact turns_ft a b c k hk h1 h2 w
  · exact turns_tf a b c k hk h1 h2 w
  · exact turns_tt a b c k hk h1 h2 w
end Go.Proofs.Ytbmfcedndbgpoaa
