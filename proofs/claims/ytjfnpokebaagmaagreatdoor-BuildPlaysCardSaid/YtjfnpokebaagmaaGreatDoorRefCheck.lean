/- The walk of the reference of layer 13: Check. -/
import Derived.Test.YtjfnpokebaagmaaGreatDoorRefShape
namespace Go.Proofs.YtjfnpokebaagmaaGreatDoor
open Go.RowKit Go.Deep
set_option linter.unusedVariables false

set_option maxHeartbeats 400000 in
theorem refcheck_none (op x y z u : Int) (w : World) (h : shp op = []) :
    Calls Tryz.prog 47 #[insV op x y z u] w fun e w' => e = .returned (.int .i64 2) ∧ Chg w w' [] := by
  go_enter Tryz.func47, Tryz.ntmps47
  go_wp2_with (go_at_call 62; refine (refshape_any op _).mono ?_; rintro e w1 ⟨rfl, rfl⟩; rw [h])
  go_ret
  exact ⟨rfl, (Chg.refl _ _).alloc _⟩

/-- What holds at the head of a round of the reference's Check. -/
def RChkRel (w : World) (a b c d : UInt8) (x y z u : Int) (q : Nat) (v : Value) (wr : World) : Prop :=
  ∃ k : Nat, k ≤ 4 ∧ v = .int .i64 (k : Int) ∧ (0 < k → fe a x = 0) ∧ (1 < k → fe b y = 0) ∧ (2 < k → fe c z = 0) ∧ (3 < k → fe d u = 0) ∧
    Blk wr q 3 [.int .i64 x, .int .i64 y, .int .i64 z, .int .i64 u] ∧ Chg w wr []

set_option maxHeartbeats 2000000 in
theorem refcheck_some (op x y z u : Int) (a b c d : UInt8) (w : World) (h : shp op = [a, b, c, d]) :
    Calls Tryz.prog 47 #[insV op x y z u] w fun e w' => e = .returned (.int .i64 (chk4 a b c d x y z u)) ∧ Chg w w' [] := by
  go_enter Tryz.func47, Tryz.ntmps47
  go_wp2_with fail
  have hib : Blk (w.alloc (.cells (insC op x y z u).toArray 25)) w.heap.size 25 (insC op x y z u) := Blk.new _ _ _
  have hc0 : Chg w (w.alloc (.cells (insC op x y z u).toArray 25)) [] := (Chg.refl _ _).alloc _
  generalize hib0 : w.heap.size = ib at *
  have HI := hide hib0
  clear hib0
  generalize w.alloc (.cells #[.int .i64 op, .int .i64 x, .int .i64 y, .int .i64 z, .int .i64 u] 25) = w0 at *
  have c1 := hib.cell' (i := 1) rfl
  have c2 := hib.cell' (i := 2) rfl
  have c3 := hib.cell' (i := 3) rfl
  have c4 := hib.cell' (i := 4) rfl
  have HC := hide hc0
  clear hib hc0
  refine (refshape_any op _).mono ?_
  rintro e w1 ⟨rfl, rfl⟩
  rw [h]
  have hstart : RChkRel w a b c d x y z u w0.heap.size (.int .i64 (0 : Nat)) (w0.alloc (.cells #[.int .i64 x, .int .i64 y, .int .i64 z, .int .i64 u] 3)) :=
    ⟨0, by omega, rfl, by omega, by omega, by omega, by omega, Blk.new w0 _ [.int .i64 x, .int .i64 y, .int .i64 z, .int .i64 u], HC.out.alloc _⟩
  clear HC h
  go_wp2_with fail
  generalize w0.heap.size = q at *
  generalize w0.alloc (.cells #[.int .i64 x, .int .i64 y, .int .i64 z, .int .i64 u] 3) = w1 at *
  go_loopw [5] (fun v wr => RChkRel w a b c d x y z u q v wr) (fun i _ => 4 - (intOf i).toNat)
  case atStart => exact hstart
  case round =>
    clear hstart c1 c2 c3 c4
    obtain ⟨k, hk, rfl, h0, h1, h2, h3, hbq, hc⟩ := hrel
    have kk : k = 0 ∨ k = 1 ∨ k = 2 ∨ k = 3 ∨ k = 4 := by omega
    have cx := hbq.cell' (i := 0) rfl
    have cy := hbq.cell' (i := 1) rfl
    have cz := hbq.cell' (i := 2) rfl
    have cu := hbq.cell' (i := 3) rfl
    rcases kk with rfl | rfl | rfl | rfl | rfl
    · by_cases g : fe a x = 0
      · have HR : Hid (∀ wq : World, Chg wr wq [] → RChkRel w a b c d x y z u q (.int .i64 (1 : Nat)) wq) := fun wq hq =>
          ⟨1, by omega, rfl, fun _ => g, by omega, by omega, by omega, hbq.chg hq (by simp), hc.trans hq (by simp)⟩
        have hb : (fe a x != 0) = false := by simp [g]
        clear h0 h1 h2 h3 g hbq
        go_wp2_with fail
        go_quiet ((go_at_call 63; exact Calls.quiet_of_same (reffield_any a x _)))
        generalize fe a x = m at *
        go_wp2
        go_roundw
        case rel => exact HR.out _ ((Chg.refl _ _).drewN _)
        case measure => simp [intOf]
      · have HF : Hid (chk4 a b c d x y z u = fe a x) := by
          show chk4 a b c d x y z u = fe a x
          unfold chk4
          simp [g]
        have hb : (fe a x != 0) = true := by simp [g]
        clear h0 h1 h2 h3 g hbq
        go_wp2_with fail
        go_quiet ((go_at_call 63; exact Calls.quiet_of_same (reffield_any a x _)))
        generalize fe a x = m at *
        go_wp2
        go_ret
        exact ⟨ret_int HF.out.symm, hc.drewN _⟩
    · by_cases g : fe b y = 0
      · have HR : Hid (∀ wq : World, Chg wr wq [] → RChkRel w a b c d x y z u q (.int .i64 (2 : Nat)) wq) := fun wq hq =>
          ⟨2, by omega, rfl, fun _ => h0 (by omega), fun _ => g, by omega, by omega, hbq.chg hq (by simp), hc.trans hq (by simp)⟩
        have hb : (fe b y != 0) = false := by simp [g]
        clear h0 h1 h2 h3 g hbq
        go_wp2_with fail
        go_quiet ((go_at_call 63; exact Calls.quiet_of_same (reffield_any b y _)))
        generalize fe b y = m at *
        go_wp2
        go_roundw
        case rel => exact HR.out _ ((Chg.refl _ _).drewN _)
        case measure => simp [intOf]
      · have HF : Hid (chk4 a b c d x y z u = fe b y) := by
          show chk4 a b c d x y z u = fe b y
          unfold chk4
          simp [g, h0 (by omega)]
        have hb : (fe b y != 0) = true := by simp [g]
        clear h0 h1 h2 h3 g hbq
        go_wp2_with fail
        go_quiet ((go_at_call 63; exact Calls.quiet_of_same (reffield_any b y _)))
        generalize fe b y = m at *
        go_wp2
        go_ret
        exact ⟨ret_int HF.out.symm, hc.drewN _⟩
    · by_cases g : fe c z = 0
      · have HR : Hid (∀ wq : World, Chg wr wq [] → RChkRel w a b c d x y z u q (.int .i64 (3 : Nat)) wq) := fun wq hq =>
          ⟨3, by omega, rfl, fun _ => h0 (by omega), fun _ => h1 (by omega), fun _ => g, by omega, hbq.chg hq (by simp), hc.trans hq (by simp)⟩
        have hb : (fe c z != 0) = false := by simp [g]
        clear h0 h1 h2 h3 g hbq
        go_wp2_with fail
        go_quiet ((go_at_call 63; exact Calls.quiet_of_same (reffield_any c z _)))
        generalize fe c z = m at *
        go_wp2
        go_roundw
        case rel => exact HR.out _ ((Chg.refl _ _).drewN _)
        case measure => simp [intOf]
      · have HF : Hid (chk4 a b c d x y z u = fe c z) := by
          show chk4 a b c d x y z u = fe c z
          unfold chk4
          simp [g, h0 (by omega), h1 (by omega)]
        have hb : (fe c z != 0) = true := by simp [g]
        clear h0 h1 h2 h3 g hbq
        go_wp2_with fail
        go_quiet ((go_at_call 63; exact Calls.quiet_of_same (reffield_any c z _)))
        generalize fe c z = m at *
        go_wp2
        go_ret
        exact ⟨ret_int HF.out.symm, hc.drewN _⟩
    · by_cases g : fe d u = 0
      · have HR : Hid (∀ wq : World, Chg wr wq [] → RChkRel w a b c d x y z u q (.int .i64 (4 : Nat)) wq) := fun wq hq =>
          ⟨4, by omega, rfl, fun _ => h0 (by omega), fun _ => h1 (by omega), fun _ => h2 (by omega), fun _ => g, hbq.chg hq (by simp), hc.trans hq (by simp)⟩
        have hb : (fe d u != 0) = false := by simp [g]
        clear h0 h1 h2 h3 g hbq
        go_wp2_with fail
        go_quiet ((go_at_call 63; exact Calls.quiet_of_same (reffield_any d u _)))
        generalize fe d u = m at *
        go_wp2
        go_roundw
        case rel => exact HR.out _ ((Chg.refl _ _).drewN _)
        case measure => simp [intOf]
      · have HF : Hid (chk4 a b c d x y z u = fe d u) := by
          show chk4 a b c d x y z u = fe d u
          unfold chk4
          simp [h0 (by omega), h1 (by omega), h2 (by omega)]
        have hb : (fe d u != 0) = true := by simp [g]
        clear h0 h1 h2 h3 g hbq
        go_wp2_with fail
        go_quiet ((go_at_call 63; exact Calls.quiet_of_same (reffield_any d u _)))
        generalize fe d u = m at *
        go_wp2
        go_ret
        exact ⟨ret_int HF.out.symm, hc.drewN _⟩
    · have HF : Hid (chk4 a b c d x y z u = 0) := by
        show chk4 a b c d x y z u = 0
        unfold chk4
        simp [h0 (by omega), h1 (by omega), h2 (by omega), h3 (by omega)]
      clear h0 h1 h2 h3
      go_wp2
      go_ret
      exact ⟨ret_int HF.out.symm, hc⟩

theorem shp_form (op : Int) : shp op = [] ∨ ∃ a b c d, shp op = [a, b, c, d] := by
  rcases shp_cases op with ⟨_, e⟩ | ⟨_, e⟩ | ⟨_, e⟩ | ⟨_, e⟩ | ⟨_, e⟩ | ⟨_, e⟩ | ⟨_, e⟩ | ⟨_, e⟩ | ⟨_, e⟩ | ⟨_, e⟩
  · exact .inl e
  all_goals exact .inr ⟨_, _, _, _, e⟩

/-- The reference's Check's error, of whatever instruction. -/
theorem refcheck_any (op x y z u : Int) (w : World) :
    Calls Tryz.prog 47 #[insV op x y z u] w fun e w' => e = .returned (.int .i64 (chk op x y z u)) ∧ Chg w w' [] := by
  rcases shp_form op with h | ⟨a, b, c, d, h⟩
  · have e : chk op x y z u = 2 := by unfold chk; rw [h]
    rw [e]
    exact refcheck_none op x y z u w h
  · have e : chk op x y z u = chk4 a b c d x y z u := by unfold chk; rw [h]
    rw [e]
    exact refcheck_some op x y z u a b c d w h

end Go.Proofs.YtjfnpokebaagmaaGreatDoor
