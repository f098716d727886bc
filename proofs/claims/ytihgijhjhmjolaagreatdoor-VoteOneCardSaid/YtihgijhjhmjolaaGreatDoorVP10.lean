/- Texts of this claim, side by side: Next, Of. -/
import Derived.Test.YtihgijhjhmjolaaGreatDoorVP7
import Derived.Deep.RegionWith
import Derived.Test.YtihgijhjhmjolaaGreatDoorVP5
import Derived.Deep.DeepCutAuto
import Derived.Test.YtihgijhjhmjolaaGreatDoorWorks11
/- step.Next. -/
namespace Go.Proofs.YtihgijhjhmjolaaGreatDoor
open Go.RowKit Go.Deep
set_option linter.unusedVariables false
theorem within_01 (n low high : Wd) : (withinW n low high).v = 0 ∨ (withinW n low high).v = -1 := by
 show subI (orI (ltuI n.v low.v) (ltuI high.v n.v)) (kW 1).v = 0 ∨ subI (orI (ltuI n.v low.v) (ltuI high.v n.v)) (kW 1).v = -1
 unfold ltuI
 by_cases a : n.v % 4294967296 < low.v % 4294967296 <;> by_cases b : high.v % 4294967296 < n.v % 4294967296
 · rw [if_pos a, if_pos b]; left; decide +kernel
 · rw [if_pos a, if_neg b]; left; decide +kernel
 · rw [if_neg a, if_pos b]; left; decide +kernel
 · rw [if_neg a, if_neg b]; right; decide +kernel
def flagI (m : Wd) (f : Int) : Int := if m.v = 0 then f else 0
def flagsI (ga gm : Wd) : Int := flagI ga 2 + flagI gm 4
theorem flags_or (ga gm : Wd) : bits BinOp.or IntKind.i64 (flagI ga 2) (flagI gm 4) = flagsI ga gm := by
 unfold flagsI flagI
 by_cases a : ga.v = 0 <;> by_cases b : gm.v = 0
 · rw [if_pos a, if_pos b]; decide +kernel
 · rw [if_pos a, if_neg b]; decide +kernel
 · rw [if_neg a, if_pos b]; decide +kernel
 · rw [if_neg a, if_neg b]; decide +kernel
set_option maxRecDepth 100000 in
set_option maxHeartbeats 2000000 in
theorem flag_z2 (w : World) : Calls Tryz.prog 50 #[.int .i32 (0), .int .i64 2] w fun e w' => e = .returned (.int .i64 2) ∧ w = w' := by
 go_enter Tryz.func50, Tryz.ntmps50
 go_wp2
 go_ret
 exact ⟨ret_int (k := .i64) (a := bits BinOp.and IntKind.i64 (wrap64 (bits BinOp.xor IntKind.i32 (-1) (0))) 2) (by decide +kernel), rfl⟩
set_option maxRecDepth 100000 in
set_option maxHeartbeats 2000000 in
theorem flag_z4 (w : World) : Calls Tryz.prog 50 #[.int .i32 (0), .int .i64 4] w fun e w' => e = .returned (.int .i64 4) ∧ w = w' := by
 go_enter Tryz.func50, Tryz.ntmps50
 go_wp2
 go_ret
 exact ⟨ret_int (k := .i64) (a := bits BinOp.and IntKind.i64 (wrap64 (bits BinOp.xor IntKind.i32 (-1) (0))) 4) (by decide +kernel), rfl⟩
set_option maxRecDepth 100000 in
set_option maxHeartbeats 2000000 in
theorem flag_n2 (w : World) : Calls Tryz.prog 50 #[.int .i32 (-1), .int .i64 2] w fun e w' => e = .returned (.int .i64 0) ∧ w = w' := by
 go_enter Tryz.func50, Tryz.ntmps50
 go_wp2
 go_ret
 exact ⟨ret_int (k := .i64) (a := bits BinOp.and IntKind.i64 (wrap64 (bits BinOp.xor IntKind.i32 (-1) (-1))) 2) (by decide +kernel), rfl⟩
set_option maxRecDepth 100000 in
set_option maxHeartbeats 2000000 in
theorem flag_n4 (w : World) : Calls Tryz.prog 50 #[.int .i32 (-1), .int .i64 4] w fun e w' => e = .returned (.int .i64 0) ∧ w = w' := by
 go_enter Tryz.func50, Tryz.ntmps50
 go_wp2
 go_ret
 exact ⟨ret_int (k := .i64) (a := bits BinOp.and IntKind.i64 (wrap64 (bits BinOp.xor IntKind.i32 (-1) (-1))) 4) (by decide +kernel), rfl⟩
theorem flag_calls (m : Wd) (f : Int) (w : World) (hm : m.v = 0 ∨ m.v = -1) (hf : f = 2 ∨ f = 4) : Calls Tryz.prog 50 #[.int .i32 m.v, .int .i64 f] w fun e w' => e = .returned (.int .i64 (flagI m f)) ∧ w = w' := by
 unfold flagI
 rcases hm with h | h <;> rcases hf with rfl | rfl <;> rw [h]
 · exact flag_z2 w
 · exact flag_z4 w
 · exact flag_n2 w
 · exact flag_n4 w
def Mid (w : World) (R : Nat) (ga gm : Wd) (vs : List Value) (s6 s7 s8 : Value) (wx : World) : Prop :=
 ∃ g : Nat, s6 = .pointer (some ⟨g, 0, none⟩) ∧ s7 = .int .i32 ga.v ∧ s8 = .int .i32 gm.v ∧ Hid (Blk wx g 22 vs) ∧ Hid (Blk wx R 23 [.int .i32 0, .int .i32 0, .int .i32 0, .int .i32 0]) ∧ Hid (Chg w wx []) ∧ g ≠ R
set_option maxRecDepth 100000 in
set_option maxHeartbeats 16000000 in
theorem next_calls (q0 q1 q2 q3 u0 u1 u2 a0 a1 a2 v0 v1 v2 : Wd) (w : World) :
 Calls Tryz.prog 29 #[.agg #[.int .i32 q0.v, .int .i32 q1.v, .int .i32 q2.v, .int .i32 q3.v], .agg #[.int .i32 u0.v, .int .i32 u1.v, .int .i32 u2.v, .int .i32 a0.v, .int .i32 a1.v, .int .i32 a2.v, .int .i32 v0.v, .int .i32 v1.v, .int .i32 v2.v]] w fun e w' => e = .returned (.tuple #[.agg #[.int .i32 (sensedW q0 q1 q2 q3 u0 u1 u2 a0 a1 a2 v0 v1 v2).a.v, .int .i32 (sensedW q0 q1 q2 q3 u0 u1 u2 a0 a1 a2 v0 v1 v2).b.v, .int .i32 (sensedW q0 q1 q2 q3 u0 u1 u2 a0 a1 a2 v0 v1 v2).c.v, .int .i32 (sensedW q0 q1 q2 q3 u0 u1 u2 a0 a1 a2 v0 v1 v2).d.v], .int .i64 (flagsI (sensedA a0 a1 a2) (sensedM v0 v1 v2))]) ∧ Chg w w' [] := by
 have k0 := Blk.new w 23 [.int .i32 q0.v, .int .i32 q1.v, .int .i32 q2.v, .int .i32 q3.v]
 have m0 := ((k0.alloc (.cells #[.int .i32 u0.v, .int .i32 u1.v, .int .i32 u2.v, .int .i32 a0.v, .int .i32 a1.v, .int .i32 a2.v, .int .i32 v0.v, .int .i32 v1.v, .int .i32 v2.v] 65)).alloc (.cells #[.int .i32 0, .int .i32 0, .int .i32 0, .int .i32 0] 23))
 have g0_0 := m0.cell' (i := 0) rfl
 have g0_1 := m0.cell' (i := 1) rfl
 have g0_2 := m0.cell' (i := 2) rfl
 have g0_3 := m0.cell' (i := 3) rfl
 have k1 := Blk.new (w.alloc (.cells #[.int .i32 q0.v, .int .i32 q1.v, .int .i32 q2.v, .int .i32 q3.v] 23)) 65 [.int .i32 u0.v, .int .i32 u1.v, .int .i32 u2.v, .int .i32 a0.v, .int .i32 a1.v, .int .i32 a2.v, .int .i32 v0.v, .int .i32 v1.v, .int .i32 v2.v]
 have m1 := (k1.alloc (.cells #[.int .i32 0, .int .i32 0, .int .i32 0, .int .i32 0] 23))
 simp only [size_alloc] at m1
 have g1_0 := m1.cell' (i := 0) rfl
 have g1_1 := m1.cell' (i := 1) rfl
 have g1_2 := m1.cell' (i := 2) rfl
 have g1_3 := m1.cell' (i := 3) rfl
 have g1_4 := m1.cell' (i := 4) rfl
 have g1_5 := m1.cell' (i := 5) rfl
 have g1_6 := m1.cell' (i := 6) rfl
 have g1_7 := m1.cell' (i := 7) rfl
 have g1_8 := m1.cell' (i := 8) rfl
 have k2 := Blk.new ((w.alloc (.cells #[.int .i32 q0.v, .int .i32 q1.v, .int .i32 q2.v, .int .i32 q3.v] 23)).alloc (.cells #[.int .i32 u0.v, .int .i32 u1.v, .int .i32 u2.v, .int .i32 a0.v, .int .i32 a1.v, .int .i32 a2.v, .int .i32 v0.v, .int .i32 v1.v, .int .i32 v2.v] 65)) 23 [.int .i32 0, .int .i32 0, .int .i32 0, .int .i32 0]
 have m2 := k2
 simp only [size_alloc] at m2
 have HC := hide ((((Chg.refl w []).alloc (.cells #[.int .i32 q0.v, .int .i32 q1.v, .int .i32 q2.v, .int .i32 q3.v] 23)).alloc (.cells #[.int .i32 u0.v, .int .i32 u1.v, .int .i32 u2.v, .int .i32 a0.v, .int .i32 a1.v, .int .i32 a2.v, .int .i32 v0.v, .int .i32 v1.v, .int .i32 v2.v] 65)).alloc (.cells #[.int .i32 0, .int .i32 0, .int .i32 0, .int .i32 0] 23))
 clear k0 k1 k2
 have HR := hide m2
 have l2 : w.heap.size + 1 + 1 < ((((w.alloc (.cells #[.int .i32 q0.v, .int .i32 q1.v, .int .i32 q2.v, .int .i32 q3.v] 23)).alloc (.cells #[.int .i32 u0.v, .int .i32 u1.v, .int .i32 u2.v, .int .i32 a0.v, .int .i32 a1.v, .int .i32 a2.v, .int .i32 v0.v, .int .i32 v1.v, .int .i32 v2.v] 65)).alloc (.cells #[.int .i32 0, .int .i32 0, .int .i32 0, .int .i32 0] 23))).heap.size := m2.lt
 clear m0 m1 m2
 go_enter Tryz.func29, Tryz.ntmps29
 go_upto_region 1 with (fail)
 generalize (((w.alloc (.cells #[.int .i32 q0.v, .int .i32 q1.v, .int .i32 q2.v, .int .i32 q3.v] 23)).alloc (.cells #[.int .i32 u0.v, .int .i32 u1.v, .int .i32 u2.v, .int .i32 a0.v, .int .i32 a1.v, .int .i32 a2.v, .int .i32 v0.v, .int .i32 v1.v, .int .i32 v2.v] 65)).alloc (.cells #[.int .i32 0, .int .i32 0, .int .i32 0, .int .i32 0] 23)) = w6 at *
 go_cut [6, 7, 8] (fun s6 s7 s8 wx => Mid w (w.heap.size + 1 + 1) (sensedA a0 a1 a2) (sensedM v0 v1 v2) [.int .i32 (sensedW q0 q1 q2 q3 u0 u1 u2 a0 a1 a2 v0 v1 v2).a.v, .int .i32 (sensedW q0 q1 q2 q3 u0 u1 u2 a0 a1 a2 v0 v1 v2).b.v, .int .i32 (sensedW q0 q1 q2 q3 u0 u1 u2 a0 a1 a2 v0 v1 v2).c.v, .int .i32 (sensedW q0 q1 q2 q3 u0 u1 u2 a0 a1 a2 v0 v1 v2).d.v] s6 s7 s8 wx)
 case first =>
  have mk : ∀ W, Chg w6 W [] → (fun w' => Chg w6 w' [] ∧ w'.cell? ⟨w.heap.size, 0, none⟩ = some (.int .i32 q0.v) ∧ w'.cell? ⟨w.heap.size, 1, none⟩ = some (.int .i32 q1.v) ∧ w'.cell? ⟨w.heap.size, 2, none⟩ = some (.int .i32 q2.v) ∧ w'.cell? ⟨w.heap.size, 3, none⟩ = some (.int .i32 q3.v) ∧ w'.cell? ⟨w.heap.size + 1, 0, none⟩ = some (.int .i32 u0.v) ∧ w'.cell? ⟨w.heap.size + 1, 1, none⟩ = some (.int .i32 u1.v) ∧ w'.cell? ⟨w.heap.size + 1, 2, none⟩ = some (.int .i32 u2.v) ∧ w'.cell? ⟨w.heap.size + 1, 3, none⟩ = some (.int .i32 a0.v) ∧ w'.cell? ⟨w.heap.size + 1, 4, none⟩ = some (.int .i32 a1.v) ∧ w'.cell? ⟨w.heap.size + 1, 5, none⟩ = some (.int .i32 a2.v) ∧ w'.cell? ⟨w.heap.size + 1, 6, none⟩ = some (.int .i32 v0.v) ∧ w'.cell? ⟨w.heap.size + 1, 7, none⟩ = some (.int .i32 v1.v) ∧ w'.cell? ⟨w.heap.size + 1, 8, none⟩ = some (.int .i32 v2.v)) W := fun W hh => ⟨hh, hh.cell g0_0 (by simp), hh.cell g0_1 (by simp), hh.cell g0_2 (by simp), hh.cell g0_3 (by simp), hh.cell g1_0 (by simp), hh.cell g1_1 (by simp), hh.cell g1_2 (by simp), hh.cell g1_3 (by simp), hh.cell g1_4 (by simp), hh.cell g1_5 (by simp), hh.cell g1_6 (by simp), hh.cell g1_7 (by simp), hh.cell g1_8 (by simp)⟩
  go_region_held3 (fun w' => Chg w6 w' [] ∧ w'.cell? ⟨w.heap.size, 0, none⟩ = some (.int .i32 q0.v) ∧ w'.cell? ⟨w.heap.size, 1, none⟩ = some (.int .i32 q1.v) ∧ w'.cell? ⟨w.heap.size, 2, none⟩ = some (.int .i32 q2.v) ∧ w'.cell? ⟨w.heap.size, 3, none⟩ = some (.int .i32 q3.v) ∧ w'.cell? ⟨w.heap.size + 1, 0, none⟩ = some (.int .i32 u0.v) ∧ w'.cell? ⟨w.heap.size + 1, 1, none⟩ = some (.int .i32 u1.v) ∧ w'.cell? ⟨w.heap.size + 1, 2, none⟩ = some (.int .i32 u2.v) ∧ w'.cell? ⟨w.heap.size + 1, 3, none⟩ = some (.int .i32 a0.v) ∧ w'.cell? ⟨w.heap.size + 1, 4, none⟩ = some (.int .i32 a1.v) ∧ w'.cell? ⟨w.heap.size + 1, 5, none⟩ = some (.int .i32 a2.v) ∧ w'.cell? ⟨w.heap.size + 1, 6, none⟩ = some (.int .i32 v0.v) ∧ w'.cell? ⟨w.heap.size + 1, 7, none⟩ = some (.int .i32 v1.v) ∧ w'.cell? ⟨w.heap.size + 1, 8, none⟩ = some (.int .i32 v2.v)) (first | exact mk _ ((Chg.refl w6 []).drew) | exact mk _ H67 | exact mk _ HX | exact mk _ (((Chg.refl w6 []).alloc _).drew) | exact mk _ (H67.alloc _) | exact mk _ (HX.alloc _) | exact mk _ (((((HX).setCell ⟨w7.heap.size, 0, none⟩ _ (.inr H67.size)).setCell ⟨w7.heap.size, 1, none⟩ _ (.inr H67.size)).setCell ⟨w7.heap.size, 2, none⟩ _ (.inr H67.size)).setCell ⟨w7.heap.size, 3, none⟩ _ (.inr H67.size)) | exact mk _ (((((HX).setCell ⟨w6.heap.size, 0, none⟩ _ (.inr (Nat.le_refl _))).setCell ⟨w6.heap.size, 1, none⟩ _ (.inr (Nat.le_refl _))).setCell ⟨w6.heap.size, 2, none⟩ _ (.inr (Nat.le_refl _))).setCell ⟨w6.heap.size, 3, none⟩ _ (.inr (Nat.le_refl _)))) (first | (go_at_call 49; refine (numbers_calls w6.drew).mono ?_; rintro e w7 ⟨p, rfl, hPX, hcX, hbX⟩; have HR7 := (HR.out.drew).chg hcX (by simp); have H67 : Chg w6 w7 [] := ((Chg.refl w6 []).drew).trans hcX (by simp); skip) | (go_at_call 49; refine (numbers_calls (w6.alloc (.cells #[.int .i32 0, .int .i32 0, .int .i32 0, .int .i32 0] 22)).drew).mono ?_; rintro e w7 ⟨p, rfl, hPX, hcX, hbX⟩; have HR7 := ((HR.out.alloc (.cells #[.int .i32 0, .int .i32 0, .int .i32 0, .int .i32 0] 22)).drew).chg hcX (by simp); have H67 : Chg w6 w7 [] := (((Chg.refl w6 []).alloc (.cells #[.int .i32 0, .int .i32 0, .int .i32 0, .int .i32 0] 22)).drew).trans hcX (by simp); skip) | (go_at_call 48; refine (wsensed_calls p q0 q1 q2 q3 u0 u1 u2 a0 a1 a2 v0 v1 v2 0 w7 (by omega) hPX.most).mono ?_; rintro e w8 ⟨rfl, _, ht⟩; have HN : Chg w6.drew w8 [] := Turn.new hcX hPX hbX ht; have HR8 := hide ((HR.out.drew).chg HN (by simp)); have HX : Chg w6 w8 [] := ((Chg.refl w6 []).drew).trans HN (by simp); have HZ := hide (HC.out.trans (show Chg w6 w8 [] from HX) (D := []) (by simp)); skip) | (go_at_call 48; refine (wsensed_calls p q0 q1 q2 q3 u0 u1 u2 a0 a1 a2 v0 v1 v2 0 w7 (by omega) hPX.most).mono ?_; rintro e w8 ⟨rfl, _, ht⟩; have HN : Chg (w6.alloc (.cells #[.int .i32 0, .int .i32 0, .int .i32 0, .int .i32 0] 22)).drew w8 [] := Turn.new hcX hPX hbX ht; have HR8 := hide (((HR.out.alloc (.cells #[.int .i32 0, .int .i32 0, .int .i32 0, .int .i32 0] 22)).drew).chg HN (by simp)); have HX : Chg w6 w8 [] := (((Chg.refl w6 []).alloc (.cells #[.int .i32 0, .int .i32 0, .int .i32 0, .int .i32 0] 22)).drew).trans HN (by simp); have HA := hide (((Blk.new w6 22 [.int .i32 0, .int .i32 0, .int .i32 0, .int .i32 0]).drew).chg HN (by simp)); have al0 := HA.out.cell' (i := 0) rfl; have af0 := HA.out.frozen 0; have al1 := HA.out.cell' (i := 1) rfl; have af1 := HA.out.frozen 1; have al2 := HA.out.cell' (i := 2) rfl; have af2 := HA.out.frozen 2; have al3 := HA.out.cell' (i := 3) rfl; have af3 := HA.out.frozen 3; have HZ := hide (HC.out.trans (show Chg w6 w8 [] from HX) (D := []) (by simp)); skip) | (go_at_call 48; refine (wsensed_calls p q0 q1 q2 q3 u0 u1 u2 a0 a1 a2 v0 v1 v2 0 (w7.alloc (.cells #[.int .i32 0, .int .i32 0, .int .i32 0, .int .i32 0] 22)) (by omega) (hPX.chg ((Chg.refl w7 []).alloc (.cells #[.int .i32 0, .int .i32 0, .int .i32 0, .int .i32 0] 22)) (by simp)).most).mono ?_; rintro e w8 ⟨rfl, _, ht⟩; have HN : Chg w6.drew w8 [] := Turn.new (hcX.alloc _) (hPX.chg ((Chg.refl w7 []).alloc (.cells #[.int .i32 0, .int .i32 0, .int .i32 0, .int .i32 0] 22)) (by simp)) hbX ht; have HR8 := hide ((HR.out.drew).chg HN (by simp)); have HX : Chg w6 w8 [] := ((Chg.refl w6 []).drew).trans HN (by simp); have nd := far_of hPX.most ((Chg.refl w7 []).alloc (.cells #[.int .i32 0, .int .i32 0, .int .i32 0, .int .i32 0] 22)) w7.heap.size (Nat.le_refl _); have HA := hide ((Blk.new w7 22 [.int .i32 0, .int .i32 0, .int .i32 0, .int .i32 0]).chg ht.chg nd); have al0 := HA.out.cell' (i := 0) rfl; have af0 := HA.out.frozen 0; have al1 := HA.out.cell' (i := 1) rfl; have af1 := HA.out.frozen 1; have al2 := HA.out.cell' (i := 2) rfl; have af2 := HA.out.frozen 2; have al3 := HA.out.cell' (i := 3) rfl; have af3 := HA.out.frozen 3; have HZ := hide (HC.out.trans (show Chg w6 w8 [] from HX) (D := []) (by simp)); skip))
  all_goals (go_wp2_with fail; go_meet; first | exact ⟨w8.heap.size, rfl, rfl, rfl, Blk.new _ _ _, HR8.out.alloc _, HZ.out.alloc _, Nat.ne_of_gt HR8.out.lt⟩ | exact ⟨w7.heap.size, rfl, rfl, rfl, (((((HA.out).set_ 0 _).set_ 1 _).set_ 2 _).set_ 3 _), (((((HR8.out).far (Nat.ne_of_lt HR7.lt) _).far (Nat.ne_of_lt HR7.lt) _).far (Nat.ne_of_lt HR7.lt) _).far (Nat.ne_of_lt HR7.lt) _), (((((HZ.out).setCell ⟨w7.heap.size, 0, none⟩ _ (.inr (HC.out.trans H67 (D := []) (by simp)).size)).setCell ⟨w7.heap.size, 1, none⟩ _ (.inr (HC.out.trans H67 (D := []) (by simp)).size)).setCell ⟨w7.heap.size, 2, none⟩ _ (.inr (HC.out.trans H67 (D := []) (by simp)).size)).setCell ⟨w7.heap.size, 3, none⟩ _ (.inr (HC.out.trans H67 (D := []) (by simp)).size)), Nat.ne_of_gt HR7.lt⟩ | exact ⟨w6.heap.size, rfl, rfl, rfl, (((((HA.out).set_ 0 _).set_ 1 _).set_ 2 _).set_ 3 _), (((((HR8.out).far (Nat.ne_of_lt l2) _).far (Nat.ne_of_lt l2) _).far (Nat.ne_of_lt l2) _).far (Nat.ne_of_lt l2) _), (((((HZ.out).setCell ⟨w6.heap.size, 0, none⟩ _ (.inr HC.out.size)).setCell ⟨w6.heap.size, 1, none⟩ _ (.inr HC.out.size)).setCell ⟨w6.heap.size, 2, none⟩ _ (.inr HC.out.size)).setCell ⟨w6.heap.size, 3, none⟩ _ (.inr HC.out.size)), Nat.ne_of_gt l2⟩)
 case rest =>
  rename World => wx
  obtain ⟨g, rfl, rfl, rfl, hb, hr, HCX, hne⟩ := hcut
  have y0 := hb.out.cell' (i := 0) rfl
  have y1 := hb.out.cell' (i := 1) rfl
  have y2 := hb.out.cell' (i := 2) rfl
  have y3 := hb.out.cell' (i := 3) rfl
  replace hr := hr.out
  clear hb HR l2 HC g0_0 g0_1 g0_2 g0_3 g1_0 g1_1 g1_2 g1_3 g1_4 g1_5 g1_6 g1_7 g1_8
  go_wp2_with fail
  obtain ⟨CL, hCL⟩ : ∃ l : List (Addr × Value), l = [(⟨g, 0, none⟩, .int .i32 ((sensedW q0 q1 q2 q3 u0 u1 u2 a0 a1 a2 v0 v1 v2).a).v), (⟨g, 1, none⟩, .int .i32 ((sensedW q0 q1 q2 q3 u0 u1 u2 a0 a1 a2 v0 v1 v2).b).v), (⟨g, 2, none⟩, .int .i32 ((sensedW q0 q1 q2 q3 u0 u1 u2 a0 a1 a2 v0 v1 v2).c).v), (⟨g, 3, none⟩, .int .i32 ((sensedW q0 q1 q2 q3 u0 u1 u2 a0 a1 a2 v0 v1 v2).d).v)] := ⟨_, rfl⟩
  have HS0 : Sd wx [w.heap.size + 1 + 1] CL wx.drew := ⟨(Chg.refl wx _).drew, by rw [hCL]; simp only [List.forall_mem_cons]; exact ⟨y0, y1, y2, y3, by simp⟩⟩
  have hU0 : ∀ p ∈ CL, p.1.block ∈ ([g] : List Nat) := by rw [hCL]; simp only [List.forall_mem_cons]; exact ⟨by simp, by simp, by simp, by simp, by simp⟩
  have hlt0 : ∀ u ∈ ([g] : List Nat), u < wx.heap.size := by simp only [List.forall_mem_cons]; exact ⟨World.block_lt_of_cell? _ _ y0, by simp⟩
  refine Reg.wp_region (Reg.of 8 _ _ [.agg #[.int .i32 ((sensedW q0 q1 q2 q3 u0 u1 u2 a0 a1 a2 v0 v1 v2).a).v, .int .i32 ((sensedW q0 q1 q2 q3 u0 u1 u2 a0 a1 a2 v0 v1 v2).b).v, .int .i32 ((sensedW q0 q1 q2 q3 u0 u1 u2 a0 a1 a2 v0 v1 v2).c).v, .int .i32 ((sensedW q0 q1 q2 q3 u0 u1 u2 a0 a1 a2 v0 v1 v2).d).v], .int .i32 (sensedA a0 a1 a2).v, .int .i64 (flagI (sensedA a0 a1 a2) 2), .int .i32 (sensedM v0 v1 v2).v, .int .i64 (flagI (sensedM v0 v1 v2) 4), .int .i64 (flagsI (sensedA a0 a1 a2) (sensedM v0 v1 v2)), undef, .int .i64 (flagsI (sensedA a0 a1 a2) (sensedM v0 v1 v2))] [fun _ => undef, fun _ => undef, fun _ => undef, fun _ => undef, fun _ => undef, fun _ => undef, fun _ => undef, fun _ => undef] [.val, .val, .val, .val, .val, .val, .put 8 [.int .i32 ((sensedW q0 q1 q2 q3 u0 u1 u2 a0 a1 a2 v0 v1 v2).a).v, .int .i32 ((sensedW q0 q1 q2 q3 u0 u1 u2 a0 a1 a2 v0 v1 v2).b).v, .int .i32 ((sensedW q0 q1 q2 q3 u0 u1 u2 a0 a1 a2 v0 v1 v2).c).v, .int .i32 ((sensedW q0 q1 q2 q3 u0 u1 u2 a0 a1 a2 v0 v1 v2).d).v], .val] [(23, [.int .i32 0, .int .i32 0, .int .i32 0, .int .i32 0])] [w.heap.size + 1 + 1] [] (fun _ => Sd wx [w.heap.size + 1 + 1] CL) (Fd wx [w.heap.size + 1 + 1] [g])) (Reg.good_of _ 28 (by kernel_rfl) (by kernel_rfl)) (stands_d _ wx [w.heap.size + 1 + 1] [g] CL rfl rfl rfl hU0 hlt0) (by kernel_rfl) HS0 (hold_of (by kernel_rfl) ?holdwz1) (ne_of (by kernel_rfl) ?hnewz1) (Reg.steps_of _ rfl ⟨?_, ?_, ?_, ?_, ?_, ?_, ?_, ?_, trivial⟩) ?hendwz1
  case holdwz1 =>
   intro k T c hk
   cases k with
   | zero => simp only [List.getElem?_cons_zero, Option.some.injEq, Prod.mk.injEq] at hk; obtain ⟨rfl, rfl⟩ := hk; exact ⟨hr, ⟨by simp; try omega, .inl (by simp)⟩⟩
   | succ k =>
    simp at hk
  case hnewz1 => intro i j hi hj hne; simp at hi hj; omega
  case hendwz1 =>
   intro wz1 γ hSz hBz hnez hOz
   replace hSz : Sd wx [w.heap.size + 1 + 1] CL wz1 := hSz
   have ob0 : Blk wz1 (w.heap.size + 1 + 1) 23 [.int .i32 ((sensedW q0 q1 q2 q3 u0 u1 u2 a0 a1 a2 v0 v1 v2).a).v, .int .i32 ((sensedW q0 q1 q2 q3 u0 u1 u2 a0 a1 a2 v0 v1 v2).b).v, .int .i32 ((sensedW q0 q1 q2 q3 u0 u1 u2 a0 a1 a2 v0 v1 v2).c).v, .int .i32 ((sensedW q0 q1 q2 q3 u0 u1 u2 a0 a1 a2 v0 v1 v2).d).v] := by have h := (hBz 8 23 [.int .i32 0, .int .i32 0, .int .i32 0, .int .i32 0] (by kernel_rfl) [.int .i32 ((sensedW q0 q1 q2 q3 u0 u1 u2 a0 a1 a2 v0 v1 v2).a).v, .int .i32 ((sensedW q0 q1 q2 q3 u0 u1 u2 a0 a1 a2 v0 v1 v2).b).v, .int .i32 ((sensedW q0 q1 q2 q3 u0 u1 u2 a0 a1 a2 v0 v1 v2).c).v, .int .i32 ((sensedW q0 q1 q2 q3 u0 u1 u2 a0 a1 a2 v0 v1 v2).d).v] (by kernel_rfl)).1; rw [hOz 8 (Nat.le_trans (Nat.le_of_eq (by kernel_rfl : _ = 8)) (by decide : 8 ≤ 8))] at h; exact h
   refine end_of [(5, .int .i64 (flagsI (sensedA a0 a1 a2) (sensedM v0 v1 v2))), (22, .agg #[.int .i32 ((sensedW q0 q1 q2 q3 u0 u1 u2 a0 a1 a2 v0 v1 v2).a).v, .int .i32 ((sensedW q0 q1 q2 q3 u0 u1 u2 a0 a1 a2 v0 v1 v2).b).v, .int .i32 ((sensedW q0 q1 q2 q3 u0 u1 u2 a0 a1 a2 v0 v1 v2).c).v, .int .i32 ((sensedW q0 q1 q2 q3 u0 u1 u2 a0 a1 a2 v0 v1 v2).d).v]), (23, .int .i32 (sensedA a0 a1 a2).v), (24, .int .i64 (flagI (sensedA a0 a1 a2) 2)), (25, .int .i32 (sensedM v0 v1 v2).v), (26, .int .i64 (flagI (sensedM v0 v1 v2) 4)), (27, .int .i64 (flagsI (sensedA a0 a1 a2) (sensedM v0 v1 v2)))] (by kernel_rfl) ?_
   clear hBz hnez hOz HS0 hU0
   simp only [Reg.of, List.foldl_cons, List.foldl_nil, List.setIfInBounds_toArray, List.set_cons_zero, List.set_cons_succ]
   have HC1 := hide (HCX.out.trans hSz.chg (D := []) (by simp; try omega))
   have y1_0 : wz1.cell? ⟨g, 0, none⟩ = some (.int .i32 ((sensedW q0 q1 q2 q3 u0 u1 u2 a0 a1 a2 v0 v1 v2).a).v) := hSz.at_ 0 _ _ (by rw [hCL]; rfl)
   have y1_1 : wz1.cell? ⟨g, 1, none⟩ = some (.int .i32 ((sensedW q0 q1 q2 q3 u0 u1 u2 a0 a1 a2 v0 v1 v2).b).v) := hSz.at_ 1 _ _ (by rw [hCL]; rfl)
   have y1_2 : wz1.cell? ⟨g, 2, none⟩ = some (.int .i32 ((sensedW q0 q1 q2 q3 u0 u1 u2 a0 a1 a2 v0 v1 v2).c).v) := hSz.at_ 2 _ _ (by rw [hCL]; rfl)
   have y1_3 : wz1.cell? ⟨g, 3, none⟩ = some (.int .i32 ((sensedW q0 q1 q2 q3 u0 u1 u2 a0 a1 a2 v0 v1 v2).d).v) := hSz.at_ 3 _ _ (by rw [hCL]; rfl)
   clear hSz hCL hlt0 CL y0 y1 y2 y3 HCX hr
   have mo1_0 := ob0
   clear ob0
   have xr0 := mo1_0.cell' (i := 0) rfl
   have xr1 := mo1_0.cell' (i := 1) rfl
   have xr2 := mo1_0.cell' (i := 2) rfl
   have xr3 := mo1_0.cell' (i := 3) rfl
   go_wp2
   refine bodyPost_ret (v := .tuple #[.agg #[.int .i32 (sensedW q0 q1 q2 q3 u0 u1 u2 a0 a1 a2 v0 v1 v2).a.v, .int .i32 (sensedW q0 q1 q2 q3 u0 u1 u2 a0 a1 a2 v0 v1 v2).b.v, .int .i32 (sensedW q0 q1 q2 q3 u0 u1 u2 a0 a1 a2 v0 v1 v2).c.v, .int .i32 (sensedW q0 q1 q2 q3 u0 u1 u2 a0 a1 a2 v0 v1 v2).d.v], .int .i64 (flagsI (sensedA a0 a1 a2) (sensedM v0 v1 v2))]) (by simp [results, Tryz.f29, go_sem, xr0, xr1, xr2, xr3]) rfl ⟨rfl, HC1.out⟩
  · intro a wu γ nph K hp hK
    obtain ⟨e6a, e6b⟩ := hp.old_ 6 (.pointer (some ⟨g, 0, none⟩))
    have hS : Sd wx [w.heap.size + 1 + 1] CL wu := hp.S
    have c0 := hS.at_ 0 ⟨g, 0, none⟩ (.int .i32 ((sensedW q0 q1 q2 q3 u0 u1 u2 a0 a1 a2 v0 v1 v2).a).v) (by rw [hCL]; rfl)
    have c1 := hS.at_ 1 ⟨g, 1, none⟩ (.int .i32 ((sensedW q0 q1 q2 q3 u0 u1 u2 a0 a1 a2 v0 v1 v2).b).v) (by rw [hCL]; rfl)
    have c2 := hS.at_ 2 ⟨g, 2, none⟩ (.int .i32 ((sensedW q0 q1 q2 q3 u0 u1 u2 a0 a1 a2 v0 v1 v2).c).v) (by rw [hCL]; rfl)
    have c3 := hS.at_ 3 ⟨g, 3, none⟩ (.int .i32 ((sensedW q0 q1 q2 q3 u0 u1 u2 a0 a1 a2 v0 v1 v2).d).v) (by rw [hCL]; rfl)
    have hk := hK.pure (.agg #[.int .i32 ((sensedW q0 q1 q2 q3 u0 u1 u2 a0 a1 a2 v0 v1 v2).a).v, .int .i32 ((sensedW q0 q1 q2 q3 u0 u1 u2 a0 a1 a2 v0 v1 v2).b).v, .int .i32 ((sensedW q0 q1 q2 q3 u0 u1 u2 a0 a1 a2 v0 v1 v2).c).v, .int .i32 ((sensedW q0 q1 q2 q3 u0 u1 u2 a0 a1 a2 v0 v1 v2).d).v]) hp.S
    clear hp hK hS
    go_simp
    exact hk
  · intro a wu γ nph K hp hK
    obtain ⟨e7a, e7b⟩ := hp.old_ 7 (.int .i32 (sensedA a0 a1 a2).v)
    have hk := hK.pure (.int .i32 (sensedA a0 a1 a2).v) hp.S
    clear hp hK
    go_simp
    exact hk
  · intro a wu γ nph K hp hK
    obtain ⟨e23a, e23b⟩ := hp.dep_ 23 1 (.int .i32 (sensedA a0 a1 a2).v)
    have hS : Sd wx [w.heap.size + 1 + 1] CL wu := hp.S
    have hk := hK.call (.int .i64 (flagI (sensedA a0 a1 a2) 2))
    clear hp hK
    go_simp
    refine (flag_calls (sensedA a0 a1 a2) 2 _ (within_01 _ _ _) (.inl rfl)).mono ?_
    rintro e w7 ⟨rfl, rfl⟩
    exact hk _ hS (Reg.keep_refl _ _)
  · intro a wu γ nph K hp hK
    obtain ⟨e8a, e8b⟩ := hp.old_ 8 (.int .i32 (sensedM v0 v1 v2).v)
    have hk := hK.pure (.int .i32 (sensedM v0 v1 v2).v) hp.S
    clear hp hK
    go_simp
    exact hk
  · intro a wu γ nph K hp hK
    obtain ⟨e25a, e25b⟩ := hp.dep_ 25 3 (.int .i32 (sensedM v0 v1 v2).v)
    have hS : Sd wx [w.heap.size + 1 + 1] CL wu := hp.S
    have hk := hK.call (.int .i64 (flagI (sensedM v0 v1 v2) 4))
    clear hp hK
    go_simp
    refine (flag_calls (sensedM v0 v1 v2) 4 _ (within_01 _ _ _) (.inr rfl)).mono ?_
    rintro e w7 ⟨rfl, rfl⟩
    exact hk _ hS (Reg.keep_refl _ _)
  · intro a wu γ nph K hp hK
    obtain ⟨e24a, e24b⟩ := hp.dep_ 24 2 (.int .i64 (flagI (sensedA a0 a1 a2) 2))
    obtain ⟨e26a, e26b⟩ := hp.dep_ 26 4 (.int .i64 (flagI (sensedM v0 v1 v2) 4))
    have hk := hK.pure (.int .i64 (flagsI (sensedA a0 a1 a2) (sensedM v0 v1 v2))) hp.S
    clear hp hK
    have hor := flags_or (sensedA a0 a1 a2) (sensedM v0 v1 v2)
    go_simp
    exact hk
  · intro a wu γ nph K hp hK
    obtain ⟨e4a, e4b⟩ := hp.old_ 4 (.pointer (some ⟨w.heap.size + 1 + 1, 0, none⟩))
    obtain ⟨e22a, e22b⟩ := hp.dep_ 22 0 (.agg #[.int .i32 ((sensedW q0 q1 q2 q3 u0 u1 u2 a0 a1 a2 v0 v1 v2).a).v, .int .i32 ((sensedW q0 q1 q2 q3 u0 u1 u2 a0 a1 a2 v0 v1 v2).b).v, .int .i32 ((sensedW q0 q1 q2 q3 u0 u1 u2 a0 a1 a2 v0 v1 v2).c).v, .int .i32 ((sensedW q0 q1 q2 q3 u0 u1 u2 a0 a1 a2 v0 v1 v2).d).v])
    have hb := (hp.blk_ 8 (T := 23) (c := [.int .i32 0, .int .i32 0, .int .i32 0, .int .i32 0])).1
    have hk := hK.put 8 23 [.int .i32 0, .int .i32 0, .int .i32 0, .int .i32 0] [.int .i32 ((sensedW q0 q1 q2 q3 u0 u1 u2 a0 a1 a2 v0 v1 v2).a).v, .int .i32 ((sensedW q0 q1 q2 q3 u0 u1 u2 a0 a1 a2 v0 v1 v2).b).v, .int .i32 ((sensedW q0 q1 q2 q3 u0 u1 u2 a0 a1 a2 v0 v1 v2).c).v, .int .i32 ((sensedW q0 q1 q2 q3 u0 u1 u2 a0 a1 a2 v0 v1 v2).d).v]
    have hO : γ 8 = w.heap.size + 1 + 1 := hp.old 8 (Nat.le_trans (Nat.le_of_eq (by kernel_rfl : _ = 8)) (by decide : 8 ≤ 8))
    rw [hO] at hb hk
    have z0 := hb.cell' (i := 0) rfl
    have f0 := hb.frozen 0
    have z1 := hb.cell' (i := 1) rfl
    have f1 := hb.frozen 1
    have z2 := hb.cell' (i := 2) rfl
    have f2 := hb.frozen 2
    have z3 := hb.cell' (i := 3) rfl
    have f3 := hb.frozen 3
    clear hp hK
    clear hO
    go_simp
    exact hk _ ((((hb.set_ 0 _).set_ 1 _).set_ 2 _).set_ 3 _) (((((Chg.refl wu _).setCell _ _ (.inl (by simp))).setCell _ _ (.inl (by simp))).setCell _ _ (.inl (by simp))).setCell _ _ (.inl (by simp))) (by simp)
  · intro a wu γ nph K hp hK
    obtain ⟨e27a, e27b⟩ := hp.dep_ 27 5 (.int .i64 (flagsI (sensedA a0 a1 a2) (sensedM v0 v1 v2)))
    have hk := hK.pure (.int .i64 (flagsI (sensedA a0 a1 a2) (sensedM v0 v1 v2))) hp.S
    clear hp hK
    go_simp
    exact hk
end Go.Proofs.YtihgijhjhmjolaaGreatDoor

/- euler.Of. -/
namespace Go.Proofs.YtihgijhjhmjolaaGreatDoor
open Go.RowKit Go.Deep
set_option linter.unusedVariables false
def lockB (a b c d : Wd) : Bool := (lockedW a b c d).v != 0
def MidE (w : World) (R : Nat) (lk : Wd) (vs : List Value) (s3 s4 : Value) (wx : World) : Prop :=
 ∃ g : Nat, s3 = .pointer (some ⟨g, 0, none⟩) ∧ s4 = .int .i32 lk.v ∧ Hid (Blk wx g 36 vs) ∧ Hid (Blk wx R 71 [.int .i32 0, .int .i32 0, .int .i32 0, .bool false]) ∧ Hid (Chg w wx []) ∧ g ≠ R
set_option maxRecDepth 100000 in
set_option maxHeartbeats 16000000 in
theorem eof_calls (a b c d : Wd) (w : World) :
 Calls Tryz.prog 33 #[.agg #[.int .i32 a.v, .int .i32 b.v, .int .i32 c.v, .int .i32 d.v]] w fun e w' => e = .returned (.agg #[.int .i32 (anglesW a b c d).a.v, .int .i32 (anglesW a b c d).b.v, .int .i32 (anglesW a b c d).c.v, .bool (lockB a b c d)]) ∧ Chg w w' [] := by
 have k0 := Blk.new w 23 [.int .i32 a.v, .int .i32 b.v, .int .i32 c.v, .int .i32 d.v]
 have m0 := (k0.alloc (.cells #[.int .i32 0, .int .i32 0, .int .i32 0, .bool false] 71))
 have g0_0 := m0.cell' (i := 0) rfl
 have g0_1 := m0.cell' (i := 1) rfl
 have g0_2 := m0.cell' (i := 2) rfl
 have g0_3 := m0.cell' (i := 3) rfl
 have k1 := Blk.new (w.alloc (.cells #[.int .i32 a.v, .int .i32 b.v, .int .i32 c.v, .int .i32 d.v] 23)) 71 [.int .i32 0, .int .i32 0, .int .i32 0, .bool false]
 have m1 := k1
 simp only [size_alloc] at m1
 have HC := hide (((Chg.refl w []).alloc (.cells #[.int .i32 a.v, .int .i32 b.v, .int .i32 c.v, .int .i32 d.v] 23)).alloc (.cells #[.int .i32 0, .int .i32 0, .int .i32 0, .bool false] 71))
 clear k0 k1
 have HR := hide m1
 have l2 : w.heap.size + 1 < (((w.alloc (.cells #[.int .i32 a.v, .int .i32 b.v, .int .i32 c.v, .int .i32 d.v] 23)).alloc (.cells #[.int .i32 0, .int .i32 0, .int .i32 0, .bool false] 71))).heap.size := m1.lt
 clear m0 m1
 go_enter Tryz.func33, Tryz.ntmps33
 go_upto_region 1 with (fail)
 generalize ((w.alloc (.cells #[.int .i32 a.v, .int .i32 b.v, .int .i32 c.v, .int .i32 d.v] 23)).alloc (.cells #[.int .i32 0, .int .i32 0, .int .i32 0, .bool false] 71)) = w6 at *
 go_cut [3, 4] (fun s3 s4 wx => MidE w (w.heap.size + 1) (lockedW a b c d) [.int .i32 (anglesW a b c d).a.v, .int .i32 (anglesW a b c d).b.v, .int .i32 (anglesW a b c d).c.v] s3 s4 wx)
 case first =>
  have mk : ∀ W, Chg w6 W [] → (fun w' => Chg w6 w' [] ∧ w'.cell? ⟨w.heap.size, 0, none⟩ = some (.int .i32 a.v) ∧ w'.cell? ⟨w.heap.size, 1, none⟩ = some (.int .i32 b.v) ∧ w'.cell? ⟨w.heap.size, 2, none⟩ = some (.int .i32 c.v) ∧ w'.cell? ⟨w.heap.size, 3, none⟩ = some (.int .i32 d.v)) W := fun W hh => ⟨hh, hh.cell g0_0 (by simp), hh.cell g0_1 (by simp), hh.cell g0_2 (by simp), hh.cell g0_3 (by simp)⟩
  go_region_held3 (fun w' => Chg w6 w' [] ∧ w'.cell? ⟨w.heap.size, 0, none⟩ = some (.int .i32 a.v) ∧ w'.cell? ⟨w.heap.size, 1, none⟩ = some (.int .i32 b.v) ∧ w'.cell? ⟨w.heap.size, 2, none⟩ = some (.int .i32 c.v) ∧ w'.cell? ⟨w.heap.size, 3, none⟩ = some (.int .i32 d.v)) (first | exact mk _ ((Chg.refl w6 []).drew) | exact mk _ H67 | exact mk _ HX | exact mk _ (((Chg.refl w6 []).alloc _).drew) | exact mk _ (H67.alloc _) | exact mk _ (HX.alloc _) | exact mk _ ((((((HX).setCell ⟨w7.heap.size, 0, none⟩ _ (.inr H67.size))).setCell ⟨w7.heap.size, 1, none⟩ _ (.inr H67.size))).setCell ⟨w7.heap.size, 2, none⟩ _ (.inr H67.size)) | exact mk _ ((((((HX).setCell ⟨w6.heap.size, 0, none⟩ _ (.inr (Nat.le_refl _)))).setCell ⟨w6.heap.size, 1, none⟩ _ (.inr (Nat.le_refl _)))).setCell ⟨w6.heap.size, 2, none⟩ _ (.inr (Nat.le_refl _)))) (first | (go_at_call 49; refine (numbers_calls w6.drew).mono ?_; rintro e w7 ⟨p, rfl, hPX, hcX, hbX⟩; have HR7 := (HR.out.drew).chg hcX (by simp); have H67 : Chg w6 w7 [] := ((Chg.refl w6 []).drew).trans hcX (by simp); skip) | (go_at_call 49; refine (numbers_calls (w6.alloc (.cells #[.int .i32 0, .int .i32 0, .int .i32 0] 36)).drew).mono ?_; rintro e w7 ⟨p, rfl, hPX, hcX, hbX⟩; have HR7 := ((HR.out.alloc (.cells #[.int .i32 0, .int .i32 0, .int .i32 0] 36)).drew).chg hcX (by simp); have H67 : Chg w6 w7 [] := (((Chg.refl w6 []).alloc (.cells #[.int .i32 0, .int .i32 0, .int .i32 0] 36)).drew).trans hcX (by simp); skip) | (go_at_call 64; refine (wangles_calls p a b c d 0 w7 (by omega) hPX.most).mono ?_; rintro e w8 ⟨rfl, _, ht⟩; have HN : Chg w6.drew w8 [] := Turn.new hcX hPX hbX ht; have HR8 := hide ((HR.out.drew).chg HN (by simp)); have HX : Chg w6 w8 [] := ((Chg.refl w6 []).drew).trans HN (by simp); have HZ := hide (HC.out.trans (show Chg w6 w8 [] from HX) (D := []) (by simp)); skip) | (go_at_call 64; refine (wangles_calls p a b c d 0 w7 (by omega) hPX.most).mono ?_; rintro e w8 ⟨rfl, _, ht⟩; have HN : Chg (w6.alloc (.cells #[.int .i32 0, .int .i32 0, .int .i32 0] 36)).drew w8 [] := Turn.new hcX hPX hbX ht; have HR8 := hide (((HR.out.alloc (.cells #[.int .i32 0, .int .i32 0, .int .i32 0] 36)).drew).chg HN (by simp)); have HX : Chg w6 w8 [] := (((Chg.refl w6 []).alloc (.cells #[.int .i32 0, .int .i32 0, .int .i32 0] 36)).drew).trans HN (by simp); have HA := hide (((Blk.new w6 36 [.int .i32 0, .int .i32 0, .int .i32 0]).drew).chg HN (by simp)); have al0 := HA.out.cell' (i := 0) rfl; have af0 := HA.out.frozen 0; have al1 := HA.out.cell' (i := 1) rfl; have af1 := HA.out.frozen 1; have al2 := HA.out.cell' (i := 2) rfl; have af2 := HA.out.frozen 2; have HZ := hide (HC.out.trans (show Chg w6 w8 [] from HX) (D := []) (by simp)); skip) | (go_at_call 64; refine (wangles_calls p a b c d 0 (w7.alloc (.cells #[.int .i32 0, .int .i32 0, .int .i32 0] 36)) (by omega) (hPX.chg ((Chg.refl w7 []).alloc (.cells #[.int .i32 0, .int .i32 0, .int .i32 0] 36)) (by simp)).most).mono ?_; rintro e w8 ⟨rfl, _, ht⟩; have HN : Chg w6.drew w8 [] := Turn.new (hcX.alloc _) (hPX.chg ((Chg.refl w7 []).alloc (.cells #[.int .i32 0, .int .i32 0, .int .i32 0] 36)) (by simp)) hbX ht; have HR8 := hide ((HR.out.drew).chg HN (by simp)); have HX : Chg w6 w8 [] := ((Chg.refl w6 []).drew).trans HN (by simp); have nd := far_of hPX.most ((Chg.refl w7 []).alloc (.cells #[.int .i32 0, .int .i32 0, .int .i32 0] 36)) w7.heap.size (Nat.le_refl _); have HA := hide ((Blk.new w7 36 [.int .i32 0, .int .i32 0, .int .i32 0]).chg ht.chg nd); have al0 := HA.out.cell' (i := 0) rfl; have af0 := HA.out.frozen 0; have al1 := HA.out.cell' (i := 1) rfl; have af1 := HA.out.frozen 1; have al2 := HA.out.cell' (i := 2) rfl; have af2 := HA.out.frozen 2; have HZ := hide (HC.out.trans (show Chg w6 w8 [] from HX) (D := []) (by simp)); skip))
  all_goals (go_wp2_with fail; go_meet; first | exact ⟨w8.heap.size, rfl, rfl, Blk.new _ _ _, HR8.out.alloc _, HZ.out.alloc _, Nat.ne_of_gt HR8.out.lt⟩ | exact ⟨w7.heap.size, rfl, rfl, ((((((HA.out).set_ 0 _)).set_ 1 _)).set_ 2 _), ((((((HR8.out).far (Nat.ne_of_lt HR7.lt) _)).far (Nat.ne_of_lt HR7.lt) _)).far (Nat.ne_of_lt HR7.lt) _), ((((((HZ.out).setCell ⟨w7.heap.size, 0, none⟩ _ (.inr (HC.out.trans H67 (D := []) (by simp)).size))).setCell ⟨w7.heap.size, 1, none⟩ _ (.inr (HC.out.trans H67 (D := []) (by simp)).size))).setCell ⟨w7.heap.size, 2, none⟩ _ (.inr (HC.out.trans H67 (D := []) (by simp)).size)), Nat.ne_of_gt HR7.lt⟩ | exact ⟨w6.heap.size, rfl, rfl, ((((((HA.out).set_ 0 _)).set_ 1 _)).set_ 2 _), ((((((HR8.out).far (Nat.ne_of_lt l2) _)).far (Nat.ne_of_lt l2) _)).far (Nat.ne_of_lt l2) _), ((((((HZ.out).setCell ⟨w6.heap.size, 0, none⟩ _ (.inr HC.out.size))).setCell ⟨w6.heap.size, 1, none⟩ _ (.inr HC.out.size))).setCell ⟨w6.heap.size, 2, none⟩ _ (.inr HC.out.size)), Nat.ne_of_gt l2⟩)
 case rest =>
  obtain ⟨g, rfl, rfl, hb, hr, HC1, hne⟩ := hcut
  have y0 := hb.out.cell' (i := 0) rfl
  have y1 := hb.out.cell' (i := 1) rfl
  have y2 := hb.out.cell' (i := 2) rfl
  have r0 := hr.out.cell' (i := 0) rfl
  have r1 := hr.out.cell' (i := 1) rfl
  have r2 := hr.out.cell' (i := 2) rfl
  have r3 := hr.out.cell' (i := 3) rfl
  have f0 := hr.out.frozen 0
  have f1 := hr.out.frozen 1
  have f2 := hr.out.frozen 2
  have f3 := hr.out.frozen 3
  have q0 := (hr.out.set_ 0 (.int .i32 (anglesW a b c d).a.v)).cell' (i := 0) rfl
  have q1 := ((hr.out.set_ 0 (.int .i32 (anglesW a b c d).a.v)).set_ 1 (.int .i32 (anglesW a b c d).b.v)).cell' (i := 1) rfl
  have q2 := (((hr.out.set_ 0 (.int .i32 (anglesW a b c d).a.v)).set_ 1 (.int .i32 (anglesW a b c d).b.v)).set_ 2 (.int .i32 (anglesW a b c d).c.v)).cell' (i := 2) rfl
  have q3 := ((((hr.out.set_ 0 (.int .i32 (anglesW a b c d).a.v)).set_ 1 (.int .i32 (anglesW a b c d).b.v)).set_ 2 (.int .i32 (anglesW a b c d).c.v)).set_ 3 (.bool ((lockedW a b c d).v != 0))).cell' (i := 3) rfl
  have HC2 := hide (((((HC1.out).setCell ⟨w.heap.size + 1, 0, none⟩ (.int .i32 (anglesW a b c d).a.v) (.inr (by dsimp only; omega))).setCell ⟨w.heap.size + 1, 1, none⟩ (.int .i32 (anglesW a b c d).b.v) (.inr (by dsimp only; omega))).setCell ⟨w.heap.size + 1, 2, none⟩ (.int .i32 (anglesW a b c d).c.v) (.inr (by dsimp only; omega))).setCell ⟨w.heap.size + 1, 3, none⟩ (.bool (lockB a b c d)) (.inr (by dsimp only; omega)))
  clear hb hr HR l2 HC g0_0 g0_1 g0_2 g0_3
  go_wp2
  refine bodyPost_ret (v := .agg #[.int .i32 (anglesW a b c d).a.v, .int .i32 (anglesW a b c d).b.v, .int .i32 (anglesW a b c d).c.v, .bool (lockB a b c d)]) (by simp [results, Tryz.f33, go_sem, q0, q1, q2, q3, lockB]) rfl ⟨rfl, HC2.out⟩
end Go.Proofs.YtihgijhjhmjolaaGreatDoor
