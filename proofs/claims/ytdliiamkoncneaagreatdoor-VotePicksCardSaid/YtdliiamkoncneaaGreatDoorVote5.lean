/- The example of layer 43. -/
import Derived.Test.YtdliiamkoncneaaGreatDoorVote4
namespace Go.Proofs.YtdliiamkoncneaaGreatDoor
open Go.RowKit Go.Deep
set_option linter.unusedVariables false
theorem bs1 {w : World} {g : Nat} (x : UInt8) (h : Blk w g 5 [.int .u8 x.toNat]) : Bs w (.slice (some ⟨g, 0, none⟩) 1 1) ⟨#[x]⟩ := Sl.blk (n := 1) (c := 1) h (by simp) (by omega)
def S1 : ByteArray := ⟨#[1]⟩
def S2 : ByteArray := ⟨#[2]⟩
def SE : ByteArray := ⟨#[]⟩
theorem ch1 : chosenB S1 S2 S1 = (S1, 1, true) := by
  unfold chosenB
  rw [show eqB S2 S1 = false from eqB_false.2 (by decide), show eqB S1 S1 = true from eqB_true.2 rfl]; rfl
theorem ch2 : chosenB S1 S2 SE = (SE, -1, false) := by
  unfold chosenB
  rw [show eqB S2 SE = false from eqB_false.2 (by decide), show eqB S1 SE = false from eqB_false.2 (by decide), show eqB S1 S2 = false from eqB_false.2 (by decide)]; rfl
set_option maxRecDepth 100000 in
set_option maxHeartbeats 8000000 in
theorem awake43_calls (w : World) : Calls Tryz.prog 4 #[] w fun e w' => e = .returned (.bool true) ∧ Chg w w' [] := by
  have k0 := Blk.new w 5 [.int .u8 1]
  have k1 := Blk.new (w.alloc (.cells #[.int .u8 1] 5)) 5 [.int .u8 2]
  have k2 := Blk.new ((w.alloc (.cells #[.int .u8 1] 5)).alloc (.cells #[.int .u8 2] 5)) 5 [.int .u8 1]
  have m0 := bs1 1 ((k0.alloc (.cells #[.int .u8 2] 5)).alloc (.cells #[.int .u8 1] 5))
  have m1 := bs1 2 (k1.alloc (.cells #[.int .u8 1] 5))
  have m2 := bs1 1 k2
  simp only [size_alloc] at m1 m2
  have HC := hide ((((Chg.refl w []).alloc (.cells #[.int .u8 1] 5)).alloc (.cells #[.int .u8 2] 5)).alloc (.cells #[.int .u8 1] 5))
  clear k0 k1 k2
  have M0 := hide m0
  have M1 := hide m1
  have M2 := hide m2
  clear m0 m1 m2
  go_enter Tryz.func4, Tryz.ntmps4
  go_wp2_with fail
  refine (pick_calls _ _ _ S1 S2 S1 _ M0.out M1.out M2.out).mono ?_
  rw [ch1]
  rintro e w1 ⟨hc, x, rfl, hx⟩
  have HC1 := hide (HC.out.trans hc (D := []) (by simp))
  have HX := hide hx
  clear HC M0 M1 M2 hc hx
  have k0 := Blk.new w1 5 [.int .u8 1]
  have k1 := Blk.new (w1.alloc (.cells #[.int .u8 1] 5)) 5 [.int .u8 2]
  have m0 := bs1 1 (k0.alloc (.cells #[.int .u8 2] 5))
  have m1 := bs1 2 k1
  simp only [size_alloc] at m1
  have M0 := hide m0
  have M1 := hide m1
  have HA := hide (((Chg.refl w1 []).alloc (.cells #[.int .u8 1] 5)).alloc (.cells #[.int .u8 2] 5))
  clear k0 k1 m0 m1
  go_wp2_with fail
  refine (pick_calls _ _ _ S1 S2 SE _ M0.out M1.out (Bs.nil _)).mono ?_
  rw [ch2]
  rintro e w2 ⟨hc, x2, rfl, hx2⟩
  have h12 := HA.out.trans hc (D := []) (by simp)
  have HC2 := hide (HC1.out.trans h12 (D := []) (by simp))
  have HX2 := hide (HX.out.chg h12)
  clear HC1 HX HA M0 M1 hc hx2 h12
  have kb := Blk.new w2 35 [.int .i32 0, .int .i32 0, .int .i32 0, .int .i32 0, .int .i64 0, .int .i64 0, .int .i64 0, .int .i64 0, .int .i64 0, .int .i64 0, .bool false]
  have HK := hide kb
  have HB := hide ((Chg.refl w2 []).alloc (.cells #[.int .i32 0, .int .i32 0, .int .i32 0, .int .i32 0, .int .i64 0, .int .i64 0, .int .i64 0, .int .i64 0, .int .i64 0, .int .i64 0, .bool false] 35))
  clear kb
  go_wp2_with fail
  refine (feed_nil _).mono ?_
  rintro e w3 ⟨rfl, rfl⟩
  unfold noF
  go_wp2_with fail
  generalize hw3 : (w2.alloc (.cells #[.int .i32 0, .int .i32 0, .int .i32 0, .int .i32 0, .int .i64 0, .int .i64 0, .int .i64 0, .int .i64 0, .int .i64 0, .int .i64 0, .bool false] 35)) = w3 at *
  clear hw3
  refine (feed_bad _ _ (HK.out.cell' (i := 10) rfl)).mono ?_
  rintro e w4 ⟨rfl, rfl⟩
  unfold noF
  go_wp2_with fail
  refine (reset_nil _).mono ?_
  rintro e w4 ⟨rfl, rfl⟩
  go_wp2_with fail
  refine (reset_bad _ _ (HK.out.cell' (i := 10) rfl)).mono ?_
  rintro e w4 ⟨rfl, rfl⟩
  have cx := conv_str (HX2.out.chg HB.out)
  have kS : S1.toList = [1] := by rw [ByteArray.toList_eq]; rfl
  have kE1 : pickE true = 0 := rfl
  have kE0 : pickE false = 10 := rfl
  go_wp2_with fail
  refine (state_nil _).mono ?_
  rintro e w5 ⟨rfl, hc5⟩
  have hE := eq_q0 w5
  have hG1 : Tryz.prog.eqGuardType Tryz.prog.depth 32 = false := by kernel_rfl
  have hG2 : Tryz.prog.eqGuardType Tryz.prog.depth 33 = false := by kernel_rfl
  have HK5 := hide (HK.out.chg hc5 (by simp))
  have HB5 := hide (HB.out.trans hc5 (D := []) (by simp))
  clear hc5 HK HB cx
  go_wp2_with fail
  refine (odd_bad _ _ (HK5.out.cell' (i := 7) rfl) (HK5.out.cell' (i := 8) rfl) (HK5.out.cell' (i := 9) rfl)).mono ?_
  rintro e w6 ⟨rfl, hc6⟩
  have hO := eq_od0 w6
  unfold od0 at hO
  go_wp2
  go_ret
  exact ⟨rfl, HC2.out.trans (HB5.out.trans hc6 (D := []) (by simp)) (D := []) (by simp)⟩
end Go.Proofs.YtdliiamkoncneaaGreatDoor
