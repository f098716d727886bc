/- The examples of layer 35. -/
import Derived.Test.YtkfkoobdmnndcaaGreatOf
import Derived.Test.YtkfkoobdmnndcaaGreatStill
namespace Go.Proofs.YtkfkoobdmnndcaaGreat
open Go.RowKit Go.Deep
set_option linter.unusedVariables false
def E1 : Wd := lw 1073741824 (by decide)
def E2 : Wd := lw 759250125 (by decide)
theorem e_z : Z0.v = 0 := rfl
theorem near_yes (x : Int) (w : World) (h0 : -8192 < x) (h1 : x < 8192) : Calls Tryz.prog 42 #[.int .i64 x] w fun e w' => e = .returned (.bool true) ∧ w = w' := by
  have k0 : decide (-8192 < x) = true := by simpa using h0
  have k1 : decide (x < 8192) = true := by simpa using h1
  go_enter Tryz.func42, Tryz.ntmps42
  go_wp2
  go_ret
  exact ⟨rfl, rfl⟩
theorem aw_1 : (-8192 < (anglesW E1 Z0 Z0 Z0).a.v ∧ (anglesW E1 Z0 Z0 Z0).a.v < 8192) ∧ (-8192 < (anglesW E1 Z0 Z0 Z0).b.v ∧ (anglesW E1 Z0 Z0 Z0).b.v < 8192) ∧ (-8192 < (anglesW E1 Z0 Z0 Z0).c.v ∧ (anglesW E1 Z0 Z0 Z0).c.v < 8192) := by decide +kernel
theorem aw_1l : lockB E1 Z0 Z0 Z0 = false := by decide +kernel
theorem aw_2 : 0 ≤ (anglesW E2 Z0 E2 Z0).b.v ∧ (anglesW E2 Z0 E2 Z0).b.v ≤ 2000000000 ∧ -8192 < (anglesW E2 Z0 E2 Z0).b.v / 8 - 105414357 ∧ (anglesW E2 Z0 E2 Z0).b.v / 8 - 105414357 < 8192 := by decide +kernel
theorem aw_2l : lockB E2 Z0 E2 Z0 = true := by decide +kernel
set_option maxRecDepth 100000 in
set_option maxHeartbeats 4000000 in
theorem awake35_calls (w : World) : Calls Tryz.prog 17 #[] w fun e w' => e = .returned (.bool true) ∧ Chg w w' [] := by
  obtain ⟨⟨p1, p2⟩, ⟨p3, p4⟩, ⟨p5, p6⟩⟩ := aw_1
  obtain ⟨r0, r1, r2, r3⟩ := aw_2
  have l1 := hide aw_1l
  have l2 := hide aw_2l
  go_enter Tryz.func17, Tryz.ntmps17
  go_wp2_with fail
  refine (eof_calls E1 Z0 Z0 Z0 _).mono ?_
  rw [l1.out]
  generalize (anglesW E1 Z0 Z0 Z0).a = x1 at *
  generalize (anglesW E1 Z0 Z0 Z0).b = x2 at *
  generalize (anglesW E1 Z0 Z0 Z0).c = x3 at *
  rintro e w1 ⟨rfl, hc⟩
  have HC1 := hide (hc.alloc (.cells #[.int .i32 x1.v, .int .i32 x2.v, .int .i32 x3.v, .bool false] 30))
  have nb := Blk.new w1 30 [.int .i32 x1.v, .int .i32 x2.v, .int .i32 x3.v, .bool false]
  have y0 := nb.cell' (i := 0) rfl
  have y1 := nb.cell' (i := 1) rfl
  have y2 := nb.cell' (i := 2) rfl
  have y3 := nb.cell' (i := 3) rfl
  clear hc nb
  go_wp2_with fail
  generalize (w1.alloc (.cells #[.int .i32 x1.v, .int .i32 x2.v, .int .i32 x3.v, .bool false] 30)) = w2 at *
  generalize w1.heap.size = b1 at *
  refine (eof_calls E2 Z0 E2 Z0 _).mono ?_
  rw [l2.out]
  generalize (anglesW E2 Z0 E2 Z0).a = z1 at *
  generalize (anglesW E2 Z0 E2 Z0).b = z2 at *
  generalize (anglesW E2 Z0 E2 Z0).c = z3 at *
  rintro e w3 ⟨rfl, hc⟩
  have hal := (Chg.refl w3 []).alloc (.cells #[.int .i32 z1.v, .int .i32 z2.v, .int .i32 z3.v, .bool true] 30)
  have HC3 := hide ((HC1.out.trans hc (D := []) (by simp)).alloc (.cells #[.int .i32 z1.v, .int .i32 z2.v, .int .i32 z3.v, .bool true] 30))
  have nb := Blk.new w3 30 [.int .i32 z1.v, .int .i32 z2.v, .int .i32 z3.v, .bool true]
  replace y0 := hal.cell (hc.cell y0 (by simp)) (by simp)
  have q0 := nb.cell' (i := 0) rfl
  replace y1 := hal.cell (hc.cell y1 (by simp)) (by simp)
  have q1 := nb.cell' (i := 1) rfl
  replace y2 := hal.cell (hc.cell y2 (by simp)) (by simp)
  have q2 := nb.cell' (i := 2) rfl
  replace y3 := hal.cell (hc.cell y3 (by simp)) (by simp)
  have q3 := nb.cell' (i := 3) rfl
  clear hc nb hal HC1 l1 l2
  go_wp2_with fail
  generalize (w3.alloc (.cells #[.int .i32 z1.v, .int .i32 z2.v, .int .i32 z3.v, .bool true] 30)) = w4 at *
  generalize w3.heap.size = b3 at *
  have e1 : IntKind.i64.wrap x1.v = x1.v := by rw [IntKind.wrap_i64]; omega
  refine (near_yes x1.v _ p1 p2).mono ?_
  rintro e w5 ⟨rfl, rfl⟩
  go_wp2_with fail
  refine (near_yes x2.v _ p3 p4).mono ?_
  rintro e w5 ⟨rfl, rfl⟩
  go_wp2_with fail
  refine (near_yes x3.v _ p5 p6).mono ?_
  rintro e w5 ⟨rfl, rfl⟩
  go_wp2_with fail
  refine (near_yes (z2.v / 8 - 105414357) _ r2 r3).mono ?_
  rintro e w5 ⟨rfl, rfl⟩
  go_wp2
  go_ret
  exact ⟨rfl, HC3.out⟩
end Go.Proofs.YtkfkoobdmnndcaaGreat
