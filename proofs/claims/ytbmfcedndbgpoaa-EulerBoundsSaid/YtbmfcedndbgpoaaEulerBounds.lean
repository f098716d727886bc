/- EulerBounds. -/
import Derived.Test.YtbmfcedndbgpoaaAwake5
import Derived.Test.YtbmfcedndbgpoaaEulerLaw2
import Derived.Test.YtbmfcedndbgpoaaIs
import Derived.Laws.StructEq
namespace Go.Proofs.Ytbmfcedndbgpoaa
open Go.RowKit Go.Deep
set_option linter.unusedVariables false
theorem eqE (x0 x1 x2 : Int) (l : Bool) (w : World) : (Op.equalIn 10000 36 (.agg #[.int .i32 x0, .int .i32 x1, .int .i32 x2, .bool l]) (.agg #[.int .i32 x0, .int .i32 x1, .int .i32 x2, .bool l])).run Try.prog w = .ok true w := by
  have u3 := Try.underlying21
  have k3 := Try.isAgg21
  have z3 := Try.sizeOf21
  have u4 := Try.underlying4
  have k4 := Try.isAgg4
  have z4 := Try.sizeOf4
  rw [show (10000 : Nat) = 9999 + 1 from rfl, Op.equalIn]
  simp only [Sem.run_bind, run_underlying Try.underlying36, Result.andThen_ok]
  go_simp
set_option maxRecDepth 100000 in
set_option maxHeartbeats 4000000 in
theorem eulerBounds_calls (a b c d : Wd) (w : World) : Calls Try.prog 8 #[.agg #[.int .i32 a.v, .int .i32 b.v, .int .i32 c.v, .int .i32 d.v]] w fun e w' => e = .returned (.bool true) ∧ Chg w w' [] := by
  have k0 := Blk.new w 30 [.int .i32 a.v, .int .i32 b.v, .int .i32 c.v, .int .i32 d.v]
  have m0 := k0
  have g0_0 := m0.cell' (i := 0) rfl
  have g0_1 := m0.cell' (i := 1) rfl
  have g0_2 := m0.cell' (i := 2) rfl
  have g0_3 := m0.cell' (i := 3) rfl
  have HC := hide ((Chg.refl w []).alloc (.cells #[.int .i32 a.v, .int .i32 b.v, .int .i32 c.v, .int .i32 d.v] 30))
  clear k0
  clear m0
  by_cases hq : IsQ a b c d
  · obtain ⟨⟨r0, r1⟩, p0, p1⟩ := euler_law hq
    obtain ⟨pa, pb, pc, pd⟩ := isQ_parts hq
    obtain ⟨n1, n2⟩ := angles_contrary (a := a) (b := b) (c := c) (d := d) (by omega) (by omega) (by omega) (by omega)
    have n3 : lockB (nW a) (nW b) (nW c) (nW d) = lockB a b c d := by unfold lockB; rw [n2]
    have HN := hide n1
    have HL := hide n3
    have HQ := hide hq
    clear hq n1 n2 n3 pa pb pc pd
    go_enter Try.func8, Try.ntmps8
    go_wp2_with fail
    generalize hw5 : (w.alloc (.cells #[.int .i32 a.v, .int .i32 b.v, .int .i32 c.v, .int .i32 d.v] 30)) = w5 at *
    clear hw5
    refine (is_calls a b c d _).mono ?_
    rw [isB_yes HQ.out]
    rintro e w3 ⟨rfl, hc⟩
    have HC3 := hide (HC.out.trans hc (D := []) (by simp))
    replace g0_0 := hc.cell g0_0 (by simp)
    replace g0_1 := hc.cell g0_1 (by simp)
    replace g0_2 := hc.cell g0_2 (by simp)
    replace g0_3 := hc.cell g0_3 (by simp)
    clear hc HC HQ
    go_wp2_with fail
    refine (eof_calls a b c d _).mono ?_
    generalize hA : anglesW a b c d = A at *
    obtain ⟨x1, x2, x3⟩ := A
    generalize hL : lockB a b c d = lk at *
    clear hA hL
    dsimp only at r0 r1 p0 p1
    rintro e w4 ⟨rfl, hc⟩
    have hal := (Chg.refl w4 []).alloc (.cells #[.int .i32 x1.v, .int .i32 x2.v, .int .i32 x3.v, .bool lk] 36)
    have HC4 := hide ((HC3.out.trans hc (D := []) (by simp)).alloc (.cells #[.int .i32 x1.v, .int .i32 x2.v, .int .i32 x3.v, .bool lk] 36))
    have nb := Blk.new w4 36 [.int .i32 x1.v, .int .i32 x2.v, .int .i32 x3.v, .bool lk]
    replace g0_0 := hal.cell (hc.cell g0_0 (by simp)) (by simp)
    have y0 := nb.cell' (i := 0) rfl
    replace g0_1 := hal.cell (hc.cell g0_1 (by simp)) (by simp)
    have y1 := nb.cell' (i := 1) rfl
    replace g0_2 := hal.cell (hc.cell g0_2 (by simp)) (by simp)
    have y2 := nb.cell' (i := 2) rfl
    replace g0_3 := hal.cell (hc.cell g0_3 (by simp)) (by simp)
    have y3 := nb.cell' (i := 3) rfl
    have k1 : decide (x2.v < 843316905) = true := by simp; omega
    have k2 : decide (-843316905 < x2.v) = true := by simp; omega
    have k3 : decide (x1.v ≤ 1686631761) = true := by simp; omega
    have k4 : decide (-1686631761 ≤ x1.v) = true := by simp; omega
    clear hc nb hal HC3 r0 r1 p0 p1
    go_wp2_with fail
    generalize (w4.alloc (.cells #[.int .i32 x1.v, .int .i32 x2.v, .int .i32 x3.v, .bool lk] 36)) = w6 at *
    generalize w4.heap.size = ub at *
    have mk : ∀ W, Chg w6 W [] → (fun w' => Chg w6 w' [] ∧ w'.cell? ⟨w.heap.size, 0, none⟩ = some (.int .i32 a.v) ∧ w'.cell? ⟨w.heap.size, 1, none⟩ = some (.int .i32 b.v) ∧ w'.cell? ⟨w.heap.size, 2, none⟩ = some (.int .i32 c.v) ∧ w'.cell? ⟨w.heap.size, 3, none⟩ = some (.int .i32 d.v) ∧ w'.cell? ⟨ub, 0, none⟩ = some (.int .i32 x1.v) ∧ w'.cell? ⟨ub, 1, none⟩ = some (.int .i32 x2.v) ∧ w'.cell? ⟨ub, 2, none⟩ = some (.int .i32 x3.v) ∧ w'.cell? ⟨ub, 3, none⟩ = some (.bool lk)) W := fun W hh => ⟨hh, hh.cell g0_0 (by simp), hh.cell g0_1 (by simp), hh.cell g0_2 (by simp), hh.cell g0_3 (by simp), hh.cell y0 (by simp), hh.cell y1 (by simp), hh.cell y2 (by simp), hh.cell y3 (by simp)⟩
    have hE := eqE x1.v x2.v x3.v lk
    have w0 : IntKind.i32.wrap (-a.v) = (nW a).v := by rw [wrap_i32']; rfl
    have w1 : IntKind.i32.wrap (-b.v) = (nW b).v := by rw [wrap_i32']; rfl
    have w2 : IntKind.i32.wrap (-c.v) = (nW c).v := by rw [wrap_i32']; rfl
    have w3 : IntKind.i32.wrap (-d.v) = (nW d).v := by rw [wrap_i32']; rfl
    go_region_held3 (fun w' => Chg w6 w' [] ∧ w'.cell? ⟨w.heap.size, 0, none⟩ = some (.int .i32 a.v) ∧ w'.cell? ⟨w.heap.size, 1, none⟩ = some (.int .i32 b.v) ∧ w'.cell? ⟨w.heap.size, 2, none⟩ = some (.int .i32 c.v) ∧ w'.cell? ⟨w.heap.size, 3, none⟩ = some (.int .i32 d.v) ∧ w'.cell? ⟨ub, 0, none⟩ = some (.int .i32 x1.v) ∧ w'.cell? ⟨ub, 1, none⟩ = some (.int .i32 x2.v) ∧ w'.cell? ⟨ub, 2, none⟩ = some (.int .i32 x3.v) ∧ w'.cell? ⟨ub, 3, none⟩ = some (.bool lk)) (first | exact mk _ ((Chg.refl w6 []).drew) | exact mk _ H9 | exact mk _ H10) (first | (go_at_call 21; refine (eof_calls (nW a) (nW b) (nW c) (nW d) _).mono ?_; rw [HN.out, HL.out]; rintro e w9 ⟨rfl, hcX⟩; have H9 : Chg w6 w9 [] := ((Chg.refl w6 []).drew).trans hcX (by simp); skip) | (go_at_call 20; refine (awake35_calls _).mono ?_; rintro e w10 ⟨rfl, hcY⟩; have H10 : Chg w6 w10 [] := H9.trans hcY (by simp); skip))
    clear w0 w1 w2 w3 hE
    go_wp2
    go_ret
    exact ⟨rfl, HC4.out.trans H10 (by simp)⟩
  · have HQ := hide hq
    clear hq
    go_enter Try.func8, Try.ntmps8
    go_wp2_with fail
    generalize hw5 : (w.alloc (.cells #[.int .i32 a.v, .int .i32 b.v, .int .i32 c.v, .int .i32 d.v] 30)) = w5 at *
    clear hw5
    refine (is_calls a b c d _).mono ?_
    rw [isB_no HQ.out]
    rintro e w3 ⟨rfl, hc⟩
    have HC3 := hide (HC.out.trans hc (D := []) (by simp))
    clear hc HC g0_0 g0_1 g0_2 g0_3
    go_wp2_with fail
    refine (awake35_calls _).mono ?_
    rintro e w7 ⟨rfl, hc⟩
    have HC7 := hide (HC3.out.trans hc (D := []) (by simp))
    clear hc
    go_wp2
    go_ret
    exact ⟨rfl, HC7.out⟩
end Go.Proofs.Ytbmfcedndbgpoaa
