/- The walk of the law CodeApart. -/
import Derived.Test.YtidceolaemikgaaCodeBack
namespace Go.Proofs.Ytidceolaemikgaa
open Go.RowKit Go.Deep
set_option linter.unusedVariables false

set_option maxRecDepth 100000 in
set_option maxHeartbeats 4000000 in
theorem codeapart_any (op x y z u p x' y' z' u' : Int) (w : World) :
    Calls Try.prog 7 #[insV op x y z u, insV p x' y' z' u'] w fun e w' => BackPost w e w' := by
  have hb0 := (Blk.new w 43 (insC op x y z u)).alloc (.cells (insC p x' y' z' u').toArray 43)
  have hb1 := Blk.new (w.alloc (.cells (insC op x y z u).toArray 43)) 43 (insC p x' y' z' u')
  have hc0 := ((Chg.refl w []).alloc (.cells (insC op x y z u).toArray 43)).alloc (.cells (insC p x' y' z' u').toArray 43)
  rw [size_alloc] at hb1
  have HE1 : Hid (∀ W : World, Calls Try.prog 17 #[insV op x y z u] W fun e w' => e = .returned (.tuple #[.int .u32 (encV op x y z u), .int .i64 (chk op x y z u)]) ∧ Chg W w' []) := fun W => encode_any op x y z u W
  have HE2 : Hid (∀ W : World, Calls Try.prog 17 #[insV p x' y' z' u'] W fun e w' => e = .returned (.tuple #[.int .u32 (encV p x' y' z' u'), .int .i64 (chk p x' y' z' u')]) ∧ Chg W w' []) := fun W => encode_any p x' y' z' u' W
  have Hz : Hid (chk op x y z u ≠ 0 → encV op x y z u = 0) := fun h => by unfold encV; rw [if_neg h]
  have Hinj : Hid (chk op x y z u = 0 → chk p x' y' z' u' = 0 → encV op x y z u = encV p x' y' z' u' → op = p ∧ x = x' ∧ y = y' ∧ z = z' ∧ u = u') := fun h h' => enc_inj h h'
  have Hsame : Hid ((op = p ∧ x = x' ∧ y = y' ∧ z = z' ∧ u = u') → encV op x y z u = encV p x' y' z' u') := fun ⟨a, b, c, d, e⟩ => by rw [a, b, c, d, e]
  generalize encV op x y z u = E1 at *
  generalize encV p x' y' z' u' = E2 at *
  generalize chk op x y z u = K1 at *
  generalize chk p x' y' z' u' = K2 at *
  have START : True := trivial
  by_cases hk1 : K1 = 0
  · by_cases hk2 : K2 = 0
    · subst hk1
      subst hk2
      by_cases heq : op = p ∧ x = x' ∧ y = y' ∧ z = z' ∧ u = u'
      · have h12 := Hsame.out heq
        obtain ⟨rfl, rfl, rfl, rfl, rfl⟩ := heq
        subst h12
        have hEE : (E1 == E1) = true := by simp
        clear Hz Hinj Hsame
        go_enter Try.func7, Try.ntmps7
        go_wp2_with fail
        generalize w.heap.size = b at *
        generalize (w.alloc (.cells #[.int .i64 op, .int .i64 x, .int .i64 y, .int .i64 z, .int .i64 u] 43)).alloc (.cells #[.int .i64 op, .int .i64 x, .int .i64 y, .int .i64 z, .int .i64 u] 43) = w0 at *
        refine (HE1.out _).mono ?_
        rintro e w1 ⟨rfl, hc1⟩
        replace hb0 := hb0.chg hc1 (by simp)
        replace hb1 := hb1.chg hc1 (by simp)
        replace hc0 := hc0.trans hc1 (by simp)
        clear hc1
        obtain ⟨j0, j1, j2, j3, j4⟩ := blk5 hb1
        go_wp2_with fail
        refine (HE2.out _).mono ?_
        rintro e w2 ⟨rfl, hc1⟩
        replace hb0 := hb0.chg hc1 (by simp)
        replace hb1 := hb1.chg hc1 (by simp)
        have HC := hide (hc0.trans hc1 (by simp))
        clear hc1 j0 j1 j2 j3 j4 hc0
        obtain ⟨j0, j1, j2, j3, j4⟩ := blk5 hb1
        obtain ⟨i0, i1, i2, i3, i4⟩ := blk5 hb0
        go_wp2_with fail
        refine (awake13 _).mono ?_
        rintro e w9 ⟨rfl, hcX⟩
        go_wp2
        go_ret
        exact ⟨rfl, HC.out.trans hcX (by simp)⟩
      · have h12 : (E1 == E2) = false := by rw [beq_eq_false_iff_ne]; exact fun h => heq (Hinj.out rfl rfl h)
        have HEQ := hide heq
        clear heq Hz Hinj Hsame
        go_enter Try.func7, Try.ntmps7
        go_wp2_with fail
        generalize w.heap.size = b at *
        generalize (w.alloc (.cells #[.int .i64 op, .int .i64 x, .int .i64 y, .int .i64 z, .int .i64 u] 43)).alloc (.cells #[.int .i64 p, .int .i64 x', .int .i64 y', .int .i64 z', .int .i64 u'] 43) = w0 at *
        refine (HE1.out _).mono ?_
        rintro e w1 ⟨rfl, hc1⟩
        replace hb0 := hb0.chg hc1 (by simp)
        replace hb1 := hb1.chg hc1 (by simp)
        replace hc0 := hc0.trans hc1 (by simp)
        clear hc1
        obtain ⟨j0, j1, j2, j3, j4⟩ := blk5 hb1
        go_wp2_with fail
        refine (HE2.out _).mono ?_
        rintro e w2 ⟨rfl, hc1⟩
        replace hb0 := hb0.chg hc1 (by simp)
        replace hb1 := hb1.chg hc1 (by simp)
        have HC := hide (hc0.trans hc1 (by simp))
        clear hc1 j0 j1 j2 j3 j4 hc0
        obtain ⟨j0, j1, j2, j3, j4⟩ := blk5 hb1
        obtain ⟨i0, i1, i2, i3, i4⟩ := blk5 hb0
        go_wp2_with fail
        all_goals first | (exfalso; exact HEQ.out ⟨by assumption, by assumption, by assumption, by assumption, by assumption⟩) | (refine (awake13 _).mono ?_; rintro e w9 ⟨rfl, hcX⟩; go_wp2; go_ret; exact ⟨rfl, HC.out.trans hcX (by simp)⟩)
    · subst hk1
      have hkb : (K2 != 0) = true := by rw [bne_iff_ne]; exact hk2
      clear hk2 Hz Hinj Hsame
      go_enter Try.func7, Try.ntmps7
      go_wp2_with fail
      generalize w.heap.size = b at *
      generalize (w.alloc (.cells #[.int .i64 op, .int .i64 x, .int .i64 y, .int .i64 z, .int .i64 u] 43)).alloc (.cells #[.int .i64 p, .int .i64 x', .int .i64 y', .int .i64 z', .int .i64 u'] 43) = w0 at *
      refine (HE1.out _).mono ?_
      rintro e w1 ⟨rfl, hc1⟩
      replace hb0 := hb0.chg hc1 (by simp)
      replace hb1 := hb1.chg hc1 (by simp)
      replace hc0 := hc0.trans hc1 (by simp)
      clear hc1
      obtain ⟨j0, j1, j2, j3, j4⟩ := blk5 hb1
      go_wp2_with fail
      refine (HE2.out _).mono ?_
      rintro e w2 ⟨rfl, hc1⟩
      replace hb0 := hb0.chg hc1 (by simp)
      replace hb1 := hb1.chg hc1 (by simp)
      have HC := hide (hc0.trans hc1 (by simp))
      clear hc1 j0 j1 j2 j3 j4 hc0
      obtain ⟨j0, j1, j2, j3, j4⟩ := blk5 hb1
      obtain ⟨i0, i1, i2, i3, i4⟩ := blk5 hb0
      go_wp2_with fail
      refine (awake13 _).mono ?_
      rintro e w9 ⟨rfl, hcX⟩
      go_wp2
      go_ret
      exact ⟨rfl, HC.out.trans hcX (by simp)⟩
  · have hkb : (K1 != 0) = true := by rw [bne_iff_ne]; exact hk1
    have hkc : (K1 == 0) = false := by rw [beq_eq_false_iff_ne]; exact hk1
    have hz := Hz.out hk1
    subst hz
    clear hk1 Hz Hinj Hsame
    go_enter Try.func7, Try.ntmps7
    go_wp2_with fail
    generalize w.heap.size = b at *
    generalize (w.alloc (.cells #[.int .i64 op, .int .i64 x, .int .i64 y, .int .i64 z, .int .i64 u] 43)).alloc (.cells #[.int .i64 p, .int .i64 x', .int .i64 y', .int .i64 z', .int .i64 u'] 43) = w0 at *
    refine (HE1.out _).mono ?_
    rintro e w1 ⟨rfl, hc1⟩
    replace hb0 := hb0.chg hc1 (by simp)
    replace hb1 := hb1.chg hc1 (by simp)
    replace hc0 := hc0.trans hc1 (by simp)
    clear hc1
    obtain ⟨j0, j1, j2, j3, j4⟩ := blk5 hb1
    go_wp2_with fail
    refine (HE2.out _).mono ?_
    rintro e w2 ⟨rfl, hc1⟩
    replace hb0 := hb0.chg hc1 (by simp)
    replace hb1 := hb1.chg hc1 (by simp)
    have HC := hide (hc0.trans hc1 (by simp))
    clear hc1 j0 j1 j2 j3 j4 hc0
    obtain ⟨j0, j1, j2, j3, j4⟩ := blk5 hb1
    obtain ⟨i0, i1, i2, i3, i4⟩ := blk5 hb0
    go_wp2_with fail
    refine (awake13 _).mono ?_
    rintro e w9 ⟨rfl, hcX⟩
    go_wp2
    go_ret
    exact ⟨rfl, HC.out.trans hcX (by simp)⟩

end Go.Proofs.Ytidceolaemikgaa
