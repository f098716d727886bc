/- grad.Mag. -/
import Derived.Test.YtkfkoobdmnndcaaGreatTop1b
import Derived.Test.YtkfkoobdmnndcaaGreatWorks9
namespace Go.Proofs.YtkfkoobdmnndcaaGreat
open Go.RowKit Go.Deep
set_option linter.unusedVariables false

set_option maxRecDepth 100000 in
set_option maxHeartbeats 4000000 in
theorem dmag_calls (q0 q1 q2 q3 v0 v1 v2 : Wd) (w : World) :
    Calls Tryz.prog 20 #[.agg #[.int .i32 q0.v, .int .i32 q1.v, .int .i32 q2.v, .int .i32 q3.v], .agg #[.int .i32 v0.v, .int .i32 v1.v, .int .i32 v2.v]] w fun e w' => e = .returned (.agg #[.int .i32 (fieldW q0 q1 q2 q3 v0 v1 v2).a.v, .int .i32 (fieldW q0 q1 q2 q3 v0 v1 v2).b.v, .int .i32 (fieldW q0 q1 q2 q3 v0 v1 v2).c.v, .int .i32 (fieldW q0 q1 q2 q3 v0 v1 v2).d.v]) ∧ Chg w w' [] := by
  have k0 := Blk.new w 28 [.int .i32 q0.v, .int .i32 q1.v, .int .i32 q2.v, .int .i32 q3.v]
  have m0 := ((k0.alloc (.cells #[.int .i32 v0.v, .int .i32 v1.v, .int .i32 v2.v] 22)).alloc (.cells #[.int .i32 0, .int .i32 0, .int .i32 0, .int .i32 0] 28))
  have g0_0 := m0.cell' (i := 0) rfl
  have g0_1 := m0.cell' (i := 1) rfl
  have g0_2 := m0.cell' (i := 2) rfl
  have g0_3 := m0.cell' (i := 3) rfl
  have k1 := Blk.new (w.alloc (.cells #[.int .i32 q0.v, .int .i32 q1.v, .int .i32 q2.v, .int .i32 q3.v] 28)) 22 [.int .i32 v0.v, .int .i32 v1.v, .int .i32 v2.v]
  have m1 := (k1.alloc (.cells #[.int .i32 0, .int .i32 0, .int .i32 0, .int .i32 0] 28))
  simp only [size_alloc] at m1
  have g1_0 := m1.cell' (i := 0) rfl
  have g1_1 := m1.cell' (i := 1) rfl
  have g1_2 := m1.cell' (i := 2) rfl
  have k2 := Blk.new ((w.alloc (.cells #[.int .i32 q0.v, .int .i32 q1.v, .int .i32 q2.v, .int .i32 q3.v] 28)).alloc (.cells #[.int .i32 v0.v, .int .i32 v1.v, .int .i32 v2.v] 22)) 28 [.int .i32 0, .int .i32 0, .int .i32 0, .int .i32 0]
  have m2 := k2
  simp only [size_alloc] at m2
  have g2_0 := m2.cell' (i := 0) rfl
  have g2_1 := m2.cell' (i := 1) rfl
  have g2_2 := m2.cell' (i := 2) rfl
  have g2_3 := m2.cell' (i := 3) rfl
  have HC := hide ((((Chg.refl w []).alloc (.cells #[.int .i32 q0.v, .int .i32 q1.v, .int .i32 q2.v, .int .i32 q3.v] 28)).alloc (.cells #[.int .i32 v0.v, .int .i32 v1.v, .int .i32 v2.v] 22)).alloc (.cells #[.int .i32 0, .int .i32 0, .int .i32 0, .int .i32 0] 28))
  clear k0 k1 k2
  have HM := hide m2
  clear g2_0 g2_1 g2_2 g2_3
  have lb : w.heap.size + 1 + 1 < ((((w.alloc (.cells #[.int .i32 q0.v, .int .i32 q1.v, .int .i32 q2.v, .int .i32 q3.v] 28)).alloc (.cells #[.int .i32 v0.v, .int .i32 v1.v, .int .i32 v2.v] 22)).alloc (.cells #[.int .i32 0, .int .i32 0, .int .i32 0, .int .i32 0] 28))).heap.size := m2.lt
  clear m0 m1 m2
  go_enter Tryz.func20, Tryz.ntmps20
  go_wp2_with fail
  generalize (((w.alloc (.cells #[.int .i32 q0.v, .int .i32 q1.v, .int .i32 q2.v, .int .i32 q3.v] 28)).alloc (.cells #[.int .i32 v0.v, .int .i32 v1.v, .int .i32 v2.v] 22)).alloc (.cells #[.int .i32 0, .int .i32 0, .int .i32 0, .int .i32 0] 28)) = w6 at *
  go_region_with (first | (go_at_call 26; refine (numbers_calls _).mono ?_; rintro e w7 ⟨p, rfl, hPX, hcX, hbX⟩; have g0_0x := hcX.cell (w := w6.drew) g0_0 (by simp); have g0_1x := hcX.cell (w := w6.drew) g0_1 (by simp); have g0_2x := hcX.cell (w := w6.drew) g0_2 (by simp); have g0_3x := hcX.cell (w := w6.drew) g0_3 (by simp); have g1_0x := hcX.cell (w := w6.drew) g1_0 (by simp); have g1_1x := hcX.cell (w := w6.drew) g1_1 (by simp); have g1_2x := hcX.cell (w := w6.drew) g1_2 (by simp); skip) | (go_at_call 48; refine (wfield_calls p _ _ _ _ _ _ _ 0 _ (by omega) hPX.most).mono ?_; rintro e w8 ⟨rfl, _, ht⟩; have z0 := (ht.cell ((HM.out.drew.chg hcX (by simp)).cell' (i := 0) rfl) (new_far hPX hbX _ lb)); have f0 := ((HM.out.drew.chg hcX (by simp)).chg ht.chg (new_far hPX hbX _ lb)).frozen 0; have z1 := (ht.cell ((HM.out.drew.chg hcX (by simp)).cell' (i := 1) rfl) (new_far hPX hbX _ lb)); have f1 := ((HM.out.drew.chg hcX (by simp)).chg ht.chg (new_far hPX hbX _ lb)).frozen 1; have z2 := (ht.cell ((HM.out.drew.chg hcX (by simp)).cell' (i := 2) rfl) (new_far hPX hbX _ lb)); have f2 := ((HM.out.drew.chg hcX (by simp)).chg ht.chg (new_far hPX hbX _ lb)).frozen 2; have z3 := (ht.cell ((HM.out.drew.chg hcX (by simp)).cell' (i := 3) rfl) (new_far hPX hbX _ lb)); have f3 := ((HM.out.drew.chg hcX (by simp)).chg ht.chg (new_far hPX hbX _ lb)).frozen 3; have HB8 := hide ((HM.out.drew.chg hcX (by simp)).chg ht.chg (new_far hPX hbX _ lb)); have HC8 := hide (Turn.new hcX hPX hbX ht)))
  all_goals
    have hb := ((((HB8.out.set_ 0 (.int .i32 (fieldW q0 q1 q2 q3 v0 v1 v2).a.v)).set_ 1 (.int .i32 (fieldW q0 q1 q2 q3 v0 v1 v2).b.v)).set_ 2 (.int .i32 (fieldW q0 q1 q2 q3 v0 v1 v2).c.v)).set_ 3 (.int .i32 (fieldW q0 q1 q2 q3 v0 v1 v2).d.v))
    have qq0 := hb.cell' (i := 0) rfl
    have qq1 := hb.cell' (i := 1) rfl
    have qq2 := hb.cell' (i := 2) rfl
    have qq3 := hb.cell' (i := 3) rfl
    have hcg := hide ((((((HC.out.trans HC8.out.from_drew (D := []) (by simp))).setCell ⟨w.heap.size + 1 + 1, 0, none⟩ (.int .i32 (fieldW q0 q1 q2 q3 v0 v1 v2).a.v) (.inr (by dsimp only; omega))).setCell ⟨w.heap.size + 1 + 1, 1, none⟩ (.int .i32 (fieldW q0 q1 q2 q3 v0 v1 v2).b.v) (.inr (by dsimp only; omega))).setCell ⟨w.heap.size + 1 + 1, 2, none⟩ (.int .i32 (fieldW q0 q1 q2 q3 v0 v1 v2).c.v) (.inr (by dsimp only; omega))).setCell ⟨w.heap.size + 1 + 1, 3, none⟩ (.int .i32 (fieldW q0 q1 q2 q3 v0 v1 v2).d.v) (.inr (by dsimp only; omega)))
    go_wp2
    refine bodyPost_ret (v := .agg #[.int .i32 (fieldW q0 q1 q2 q3 v0 v1 v2).a.v, .int .i32 (fieldW q0 q1 q2 q3 v0 v1 v2).b.v, .int .i32 (fieldW q0 q1 q2 q3 v0 v1 v2).c.v, .int .i32 (fieldW q0 q1 q2 q3 v0 v1 v2).d.v]) (by simp [results, Tryz.f20, go_sem, qq0, qq1, qq2, qq3]) rfl ⟨rfl, hcg.out⟩
end Go.Proofs.YtkfkoobdmnndcaaGreat
