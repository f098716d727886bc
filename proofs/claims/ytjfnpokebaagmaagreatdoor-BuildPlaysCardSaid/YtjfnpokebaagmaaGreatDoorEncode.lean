/- The walks of package code: Encode. -/
import Derived.Test.YtjfnpokebaagmaaGreatDoorCodeLaw
namespace Go.Proofs.YtjfnpokebaagmaaGreatDoor
open Go.RowKit Go.Deep
set_option linter.unusedVariables false

theorem fld1' (ib : Nat) (w : World) : Calls Tryz.prog 71 #[.pointer (some ⟨ib, 0, none⟩)] w fun e w' => e = .returned (.pointer (some ⟨ib, 1, none⟩)) ∧ w' = w := (fld1 ib w).mono fun _ _ ⟨h, h'⟩ => ⟨h, h'.symm⟩
theorem fld2' (ib : Nat) (w : World) : Calls Tryz.prog 72 #[.pointer (some ⟨ib, 0, none⟩)] w fun e w' => e = .returned (.pointer (some ⟨ib, 2, none⟩)) ∧ w' = w := (fld2 ib w).mono fun _ _ ⟨h, h'⟩ => ⟨h, h'.symm⟩
theorem fld3' (ib : Nat) (w : World) : Calls Tryz.prog 73 #[.pointer (some ⟨ib, 0, none⟩)] w fun e w' => e = .returned (.pointer (some ⟨ib, 3, none⟩)) ∧ w' = w := (fld3 ib w).mono fun _ _ ⟨h, h'⟩ => ⟨h, h'.symm⟩
theorem fld4' (ib : Nat) (w : World) : Calls Tryz.prog 74 #[.pointer (some ⟨ib, 0, none⟩)] w fun e w' => e = .returned (.pointer (some ⟨ib, 4, none⟩)) ∧ w' = w := (fld4 ib w).mono fun _ _ ⟨h, h'⟩ => ⟨h, h'.symm⟩

set_option maxHeartbeats 400000 in
theorem encode_bad (op x y z u : Int) (w : World) (h : chk op x y z u ≠ 0) :
    Calls Tryz.prog 35 #[insV op x y z u] w fun e w' => e = .returned (.tuple #[.int .u32 0, .int .i64 (chk op x y z u)]) ∧ Chg w w' [] := by
  have hb : (chk op x y z u != 0) = true := by rw [bne_iff_ne]; exact h
  have hc := check_any op x y z u (w.alloc (.cells #[.int .i64 op, .int .i64 x, .int .i64 y, .int .i64 z, .int .i64 u] 25))
  have HC := hide hc
  clear hc h
  generalize chk op x y z u = e0 at *
  go_enter Tryz.func35, Tryz.ntmps35
  go_wp2_with (go_at_call 40; refine HC.out.mono ?_; rintro e w1 ⟨rfl, hc⟩)
  go_ret2
  exact ⟨rfl, ((Chg.refl _ _).alloc _).trans hc (by simp)⟩

def EncRel (w : World) (op x y z u : Int) (ib q : Nat) (s v : Value) (wr : World) : Prop :=
  ∃ k : Nat, k ≤ 4 ∧ v = .int .i64 (k : Int) ∧ s = .int .u32 (encK op x y z u k) ∧ Blk wr ib 25 (insC op x y z u) ∧ Blk wr q 112 fcells ∧ Chg w wr []

set_option maxHeartbeats 2000000 in
theorem encode_good (op x y z u : Int) (w : World) (h0 : chk op x y z u = 0) :
    Calls Tryz.prog 35 #[insV op x y z u] w fun e w' => e = .returned (.tuple #[.int .u32 (encK op x y z u 4), .int .i64 0]) ∧ Chg w w' [] := by
  have hfit := fits_bounds ((chk_iff op x y z u).1 h0)
  obtain ⟨⟨ho1, ho2⟩, hx, hy, hz, hu, hzu⟩ := hfit
  have HZU := hide hzu
  clear hzu
  obtain ⟨a, b, c, d, h⟩ : ∃ a b c d, shp op = [a, b, c, d] := by
    rcases shp_form op with h | h
    · rw [show chk op x y z u = 2 by unfold chk; rw [h]] at h0; omega
    · exact h
  go_enter Tryz.func35, Tryz.ntmps35
  go_wp2_with fail
  have hib : Blk (w.alloc (.cells (insC op x y z u).toArray 25)) w.heap.size 25 (insC op x y z u) := Blk.new _ _ _
  have hc0 : Chg w (w.alloc (.cells (insC op x y z u).toArray 25)) [] := (Chg.refl _ _).alloc _
  generalize hib0 : w.heap.size = ib at *
  have HI := hide hib0
  clear hib0
  generalize w.alloc (.cells #[.int .i64 op, .int .i64 x, .int .i64 y, .int .i64 z, .int .i64 u] 25) = w0 at *
  refine (check_any op x y z u _).mono ?_
  rintro e w1 ⟨rfl, hc1⟩
  rw [h0]
  have H0 := hide h0
  clear h0
  replace hib := hib.chg hc1 (by simp)
  replace hc0 := hc0.trans hc1 (by simp)
  clear hc1
  have c0 := hib.cell' (i := 0) rfl
  go_wp2_with fail
  refine (shape_any op _).mono ?_
  rintro e w2 ⟨rfl, rfl⟩
  rw [h]
  have H := hide h
  clear h
  go_wp2_with fail
  refine (fields_any a b c d _).mono ?_
  rintro e w2 ⟨rfl, rfl⟩
  go_wp2_with fail
  have hstart : EncRel w op x y z u ib w1.heap.size (.int .u32 (op * 67108864)) (.int .i64 (0 : Nat)) (w1.alloc (.cells fcells.toArray 112)) :=
    ⟨0, by omega, rfl, rfl, hib.alloc _, Blk.new w1 _ _, hc0.alloc _⟩
  clear hib hc0 c0
  generalize w1.heap.size = q at *
  generalize w1.alloc (.cells fcells.toArray 112) = w2 at *
  go_loopw [5, 22] (fun s v wr => EncRel w op x y z u ib q s v wr) (fun _ i _ => 4 - (intOf i).toNat)
  case atStart => exact hstart
  case round =>
    clear hstart
    obtain ⟨k, hk, rfl, rfl, hbi, hbq, hc⟩ := hrel
    have kk : k = 0 ∨ k = 1 ∨ k = 2 ∨ k = 3 ∨ k = 4 := by omega
    have c1 := hbi.cell' (i := 1) rfl
    have c2 := hbi.cell' (i := 2) rfl
    have c3 := hbi.cell' (i := 3) rfl
    have c4 := hbi.cell' (i := 4) rfl
    have hbil := hbi.lt
    have hbql := hbq.lt
    have HBI := hide hbi
    have HBQ := hide hbq
    rcases kk with rfl | rfl | rfl | rfl | rfl
    · have q0 := hbq.cell' (i := 0) rfl
      have q1 := hbq.cell' (i := 1) rfl
      have q2 := hbq.cell' (i := 2) rfl
      unfold encK
      clear hbi hbq
      go_wp2_with fail
      go_quiet ((go_at_call 71; exact Calls.quiet_of_same (fld1' ib _)))
      go_wp2
      go_roundw
      case rel => exact ⟨1, by omega, rfl, congrArg (Value.int .u32) (enc1 ⟨ho1, ho2⟩ hx), (HBI.out.alloc _).drewN _, (HBQ.out.alloc _).drewN _, (hc.alloc _).drewN _⟩
      case measure => simp [intOf]
    · have q0 := hbq.cell' (i := 3) rfl
      have q1 := hbq.cell' (i := 4) rfl
      have q2 := hbq.cell' (i := 5) rfl
      unfold encK
      clear hbi hbq
      go_wp2_with fail
      go_quiet ((go_at_call 72; exact Calls.quiet_of_same (fld2' ib _)))
      go_wp2
      go_roundw
      case rel => exact ⟨2, by omega, rfl, congrArg (Value.int .u32) (enc2 ⟨ho1, ho2⟩ hx hy), (HBI.out.alloc _).drewN _, (HBQ.out.alloc _).drewN _, (hc.alloc _).drewN _⟩
      case measure => simp [intOf]
    · have q0 := hbq.cell' (i := 6) rfl
      have q1 := hbq.cell' (i := 7) rfl
      have q2 := hbq.cell' (i := 8) rfl
      unfold encK
      clear hbi hbq
      go_wp2_with fail
      go_quiet ((go_at_call 73; exact Calls.quiet_of_same (fld3' ib _)))
      go_wp2
      go_roundw
      case rel => exact ⟨3, by omega, rfl, congrArg (Value.int .u32) (enc3 ⟨ho1, ho2⟩ hx hy hz), (HBI.out.alloc _).drewN _, (HBQ.out.alloc _).drewN _, (hc.alloc _).drewN _⟩
      case measure => simp [intOf]
    · have q0 := hbq.cell' (i := 9) rfl
      have q1 := hbq.cell' (i := 10) rfl
      have q2 := hbq.cell' (i := 11) rfl
      unfold encK
      clear hbi hbq
      go_wp2_with fail
      go_quiet ((go_at_call 74; exact Calls.quiet_of_same (fld4' ib _)))
      go_wp2
      go_roundw
      case rel => exact ⟨4, by omega, rfl, congrArg (Value.int .u32) (enc4 ⟨ho1, ho2⟩ hx hy hz HZU.out), (HBI.out.alloc _).drewN _, (HBQ.out.alloc _).drewN _, (hc.alloc _).drewN _⟩
      case measure => simp [intOf]
    · clear hbi hbq
      go_wp2
      go_ret2
      exact ⟨rfl, hc⟩

end Go.Proofs.YtjfnpokebaagmaaGreatDoor
