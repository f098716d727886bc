/- euler.Of. -/
import Derived.Test.YtkfkoobdmnndcaaGreatWorks11
import Derived.Test.YtkfkoobdmnndcaaGreatTop1
import Derived.Deep.DeepCutAuto
namespace Go.Proofs.YtkfkoobdmnndcaaGreat
open Go.RowKit Go.Deep
set_option linter.unusedVariables false
def lockB (a b c d : Wd) : Bool := (lockedW a b c d).v != 0
/-- Behind the first region. -/
def MidE (w : World) (R : Nat) (lk : Wd) (vs : List Value) (s3 s4 : Value) (wx : World) : Prop :=
  ∃ g : Nat, s3 = .pointer (some ⟨g, 0, none⟩) ∧ s4 = .int .i32 lk.v ∧ Hid (Blk wx g 22 vs) ∧ Hid (Blk wx R 30 [.int .i32 0, .int .i32 0, .int .i32 0, .bool false]) ∧ Hid (Chg w wx []) ∧ g ≠ R
set_option maxRecDepth 100000 in
set_option maxHeartbeats 16000000 in
theorem eof_calls (a b c d : Wd) (w : World) :
    Calls Tryz.prog 15 #[.agg #[.int .i32 a.v, .int .i32 b.v, .int .i32 c.v, .int .i32 d.v]] w fun e w' => e = .returned (.agg #[.int .i32 (anglesW a b c d).a.v, .int .i32 (anglesW a b c d).b.v, .int .i32 (anglesW a b c d).c.v, .bool (lockB a b c d)]) ∧ Chg w w' [] := by
  have k0 := Blk.new w 28 [.int .i32 a.v, .int .i32 b.v, .int .i32 c.v, .int .i32 d.v]
  have m0 := (k0.alloc (.cells #[.int .i32 0, .int .i32 0, .int .i32 0, .bool false] 30))
  have g0_0 := m0.cell' (i := 0) rfl
  have g0_1 := m0.cell' (i := 1) rfl
  have g0_2 := m0.cell' (i := 2) rfl
  have g0_3 := m0.cell' (i := 3) rfl
  have k1 := Blk.new (w.alloc (.cells #[.int .i32 a.v, .int .i32 b.v, .int .i32 c.v, .int .i32 d.v] 28)) 30 [.int .i32 0, .int .i32 0, .int .i32 0, .bool false]
  have m1 := k1
  simp only [size_alloc] at m1
  have HC := hide (((Chg.refl w []).alloc (.cells #[.int .i32 a.v, .int .i32 b.v, .int .i32 c.v, .int .i32 d.v] 28)).alloc (.cells #[.int .i32 0, .int .i32 0, .int .i32 0, .bool false] 30))
  clear k0 k1
  have HR := hide m1
  have l2 : w.heap.size + 1 < (((w.alloc (.cells #[.int .i32 a.v, .int .i32 b.v, .int .i32 c.v, .int .i32 d.v] 28)).alloc (.cells #[.int .i32 0, .int .i32 0, .int .i32 0, .bool false] 30))).heap.size := m1.lt
  clear m0 m1
  go_enter Tryz.func15, Tryz.ntmps15
  go_upto_region 1 with (fail)
  generalize ((w.alloc (.cells #[.int .i32 a.v, .int .i32 b.v, .int .i32 c.v, .int .i32 d.v] 28)).alloc (.cells #[.int .i32 0, .int .i32 0, .int .i32 0, .bool false] 30)) = w6 at *
  go_cut [3, 4] (fun s3 s4 wx => MidE w (w.heap.size + 1) (lockedW a b c d) [.int .i32 (anglesW a b c d).a.v, .int .i32 (anglesW a b c d).b.v, .int .i32 (anglesW a b c d).c.v] s3 s4 wx)
  case first =>
    have mk : ∀ W, Chg w6 W [] → (fun w' => Chg w6 w' [] ∧ w'.cell? ⟨w.heap.size, 0, none⟩ = some (.int .i32 a.v) ∧ w'.cell? ⟨w.heap.size, 1, none⟩ = some (.int .i32 b.v) ∧ w'.cell? ⟨w.heap.size, 2, none⟩ = some (.int .i32 c.v) ∧ w'.cell? ⟨w.heap.size, 3, none⟩ = some (.int .i32 d.v)) W := fun W hh => ⟨hh, hh.cell g0_0 (by simp), hh.cell g0_1 (by simp), hh.cell g0_2 (by simp), hh.cell g0_3 (by simp)⟩
    go_region_held3 (fun w' => Chg w6 w' [] ∧ w'.cell? ⟨w.heap.size, 0, none⟩ = some (.int .i32 a.v) ∧ w'.cell? ⟨w.heap.size, 1, none⟩ = some (.int .i32 b.v) ∧ w'.cell? ⟨w.heap.size, 2, none⟩ = some (.int .i32 c.v) ∧ w'.cell? ⟨w.heap.size, 3, none⟩ = some (.int .i32 d.v)) (first | exact mk _ ((Chg.refl w6 []).drew) | exact mk _ H67 | exact mk _ HX | exact mk _ (((Chg.refl w6 []).alloc _).drew) | exact mk _ (H67.alloc _) | exact mk _ (HX.alloc _) | exact mk _ ((((((HX).setCell ⟨w7.heap.size, 0, none⟩ _ (.inr H67.size))).setCell ⟨w7.heap.size, 1, none⟩ _ (.inr H67.size))).setCell ⟨w7.heap.size, 2, none⟩ _ (.inr H67.size)) | exact mk _ ((((((HX).setCell ⟨w6.heap.size, 0, none⟩ _ (.inr (Nat.le_refl _)))).setCell ⟨w6.heap.size, 1, none⟩ _ (.inr (Nat.le_refl _)))).setCell ⟨w6.heap.size, 2, none⟩ _ (.inr (Nat.le_refl _)))) (first | (go_at_call 26; refine (numbers_calls w6.drew).mono ?_; rintro e w7 ⟨p, rfl, hPX, hcX, hbX⟩; have HR7 := (HR.out.drew).chg hcX (by simp); have H67 : Chg w6 w7 [] := ((Chg.refl w6 []).drew).trans hcX (by simp); skip) | (go_at_call 26; refine (numbers_calls (w6.alloc (.cells #[.int .i32 0, .int .i32 0, .int .i32 0] 22)).drew).mono ?_; rintro e w7 ⟨p, rfl, hPX, hcX, hbX⟩; have HR7 := ((HR.out.alloc (.cells #[.int .i32 0, .int .i32 0, .int .i32 0] 22)).drew).chg hcX (by simp); have H67 : Chg w6 w7 [] := (((Chg.refl w6 []).alloc (.cells #[.int .i32 0, .int .i32 0, .int .i32 0] 22)).drew).trans hcX (by simp); skip) | (go_at_call 35; refine (wangles_calls p a b c d 0 w7 (by omega) hPX.most).mono ?_; rintro e w8 ⟨rfl, _, ht⟩; have HN : Chg w6.drew w8 [] := Turn.new hcX hPX hbX ht; have HR8 := hide ((HR.out.drew).chg HN (by simp)); have HX : Chg w6 w8 [] := ((Chg.refl w6 []).drew).trans HN (by simp); have HZ := hide (HC.out.trans (show Chg w6 w8 [] from HX) (D := []) (by simp)); skip) | (go_at_call 35; refine (wangles_calls p a b c d 0 w7 (by omega) hPX.most).mono ?_; rintro e w8 ⟨rfl, _, ht⟩; have HN : Chg (w6.alloc (.cells #[.int .i32 0, .int .i32 0, .int .i32 0] 22)).drew w8 [] := Turn.new hcX hPX hbX ht; have HR8 := hide (((HR.out.alloc (.cells #[.int .i32 0, .int .i32 0, .int .i32 0] 22)).drew).chg HN (by simp)); have HX : Chg w6 w8 [] := (((Chg.refl w6 []).alloc (.cells #[.int .i32 0, .int .i32 0, .int .i32 0] 22)).drew).trans HN (by simp); have HA := hide (((Blk.new w6 22 [.int .i32 0, .int .i32 0, .int .i32 0]).drew).chg HN (by simp)); have al0 := HA.out.cell' (i := 0) rfl; have af0 := HA.out.frozen 0; have al1 := HA.out.cell' (i := 1) rfl; have af1 := HA.out.frozen 1; have al2 := HA.out.cell' (i := 2) rfl; have af2 := HA.out.frozen 2; have HZ := hide (HC.out.trans (show Chg w6 w8 [] from HX) (D := []) (by simp)); skip) | (go_at_call 35; refine (wangles_calls p a b c d 0 (w7.alloc (.cells #[.int .i32 0, .int .i32 0, .int .i32 0] 22)) (by omega) (hPX.chg ((Chg.refl w7 []).alloc (.cells #[.int .i32 0, .int .i32 0, .int .i32 0] 22)) (by simp)).most).mono ?_; rintro e w8 ⟨rfl, _, ht⟩; have HN : Chg w6.drew w8 [] := Turn.new (hcX.alloc _) (hPX.chg ((Chg.refl w7 []).alloc (.cells #[.int .i32 0, .int .i32 0, .int .i32 0] 22)) (by simp)) hbX ht; have HR8 := hide ((HR.out.drew).chg HN (by simp)); have HX : Chg w6 w8 [] := ((Chg.refl w6 []).drew).trans HN (by simp); have nd := far_of hPX.most ((Chg.refl w7 []).alloc (.cells #[.int .i32 0, .int .i32 0, .int .i32 0] 22)) w7.heap.size (Nat.le_refl _); have HA := hide ((Blk.new w7 22 [.int .i32 0, .int .i32 0, .int .i32 0]).chg ht.chg nd); have al0 := HA.out.cell' (i := 0) rfl; have af0 := HA.out.frozen 0; have al1 := HA.out.cell' (i := 1) rfl; have af1 := HA.out.frozen 1; have al2 := HA.out.cell' (i := 2) rfl; have af2 := HA.out.frozen 2; have HZ := hide (HC.out.trans (show Chg w6 w8 [] from HX) (D := []) (by simp)); skip))
    all_goals (go_wp2_with fail; go_meet; first | exact ⟨w8.heap.size, rfl, rfl, Blk.new _ _ _, HR8.out.alloc _, HZ.out.alloc _, Nat.ne_of_gt HR8.out.lt⟩ | exact ⟨w7.heap.size, rfl, rfl, ((((((HA.out).set_ 0 _)).set_ 1 _)).set_ 2 _), ((((((HR8.out).far (Nat.ne_of_lt HR7.lt) _)).far (Nat.ne_of_lt HR7.lt) _)).far (Nat.ne_of_lt HR7.lt) _), ((((((HZ.out).setCell ⟨w7.heap.size, 0, none⟩ _ (.inr (HC.out.trans H67 (D := []) (by simp)).size))).setCell ⟨w7.heap.size, 1, none⟩ _ (.inr (HC.out.trans H67 (D := []) (by simp)).size))).setCell ⟨w7.heap.size, 2, none⟩ _ (.inr (HC.out.trans H67 (D := []) (by simp)).size)), Nat.ne_of_gt HR7.lt⟩ | exact ⟨w6.heap.size, rfl, rfl, ((((((HA.out).set_ 0 _)).set_ 1 _)).set_ 2 _), ((((((HR8.out).far (Nat.ne_of_lt l2) _)).far (Nat.ne_of_lt l2) _)).far (Nat.ne_of_lt l2) _), ((((((HZ.out).setCell ⟨w6.heap.size, 0, none⟩ _ (.inr HC.out.size))).setCell ⟨w6.heap.size, 1, none⟩ _ (.inr HC.out.size))).setCell ⟨w6.heap.size, 2, none⟩ _ (.inr HC.out.size)), Nat.ne_of_gt l2⟩)
  case rest =>
    obtain ⟨g, rfl, rfl, hb, hr, HC1, hne⟩ := hcut
    have y0 := hb.out.cell' (i := 0) rfl
    have y1 := hb.out.cell' (i := 1) rfl
    have y2 := hb.out.cell' (i := 2) rfl
    have r0 := hr.out.cell' (i := 0) rfl
    have r1 := hr.out.cell' (i := 1) rfl
    have r2 := hr.out.cell' (i := 2) rfl
    have r3 := hr.out.cell' (i := 3) rfl
    have f0 := hr.out.frozen 0
    have f1 := hr.out.frozen 1
    have f2 := hr.out.frozen 2
    have f3 := hr.out.frozen 3
    have q0 := (hr.out.set_ 0 (.int .i32 (anglesW a b c d).a.v)).cell' (i := 0) rfl
    have q1 := ((hr.out.set_ 0 (.int .i32 (anglesW a b c d).a.v)).set_ 1 (.int .i32 (anglesW a b c d).b.v)).cell' (i := 1) rfl
    have q2 := (((hr.out.set_ 0 (.int .i32 (anglesW a b c d).a.v)).set_ 1 (.int .i32 (anglesW a b c d).b.v)).set_ 2 (.int .i32 (anglesW a b c d).c.v)).cell' (i := 2) rfl
    have q3 := ((((hr.out.set_ 0 (.int .i32 (anglesW a b c d).a.v)).set_ 1 (.int .i32 (anglesW a b c d).b.v)).set_ 2 (.int .i32 (anglesW a b c d).c.v)).set_ 3 (.bool ((lockedW a b c d).v != 0))).cell' (i := 3) rfl
    have HC2 := hide (((((HC1.out).setCell ⟨w.heap.size + 1, 0, none⟩ (.int .i32 (anglesW a b c d).a.v) (.inr (by dsimp only; omega))).setCell ⟨w.heap.size + 1, 1, none⟩ (.int .i32 (anglesW a b c d).b.v) (.inr (by dsimp only; omega))).setCell ⟨w.heap.size + 1, 2, none⟩ (.int .i32 (anglesW a b c d).c.v) (.inr (by dsimp only; omega))).setCell ⟨w.heap.size + 1, 3, none⟩ (.bool (lockB a b c d)) (.inr (by dsimp only; omega)))
    clear hb hr HR l2 HC g0_0 g0_1 g0_2 g0_3
    go_wp2
    refine bodyPost_ret (v := .agg #[.int .i32 (anglesW a b c d).a.v, .int .i32 (anglesW a b c d).b.v, .int .i32 (anglesW a b c d).c.v, .bool (lockB a b c d)]) (by simp [results, Tryz.f15, go_sem, q0, q1, q2, q3, lockB]) rfl ⟨rfl, HC2.out⟩
end Go.Proofs.YtkfkoobdmnndcaaGreat
