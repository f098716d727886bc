/- errors of package works at numbers. -/
import Derived.Test.YtbmfcedndbgpoaaGreatWorks5
namespace Go.Proofs.YtbmfcedndbgpoaaGreat
open Go.RowKit Go.Deep
set_option linter.unusedVariables false
set_option maxRecDepth 100000 in
set_option maxHeartbeats 8000000 in
theorem werrors_calls (p : Addr) (q0 q1 q2 q3 bx bz f0 f1 f2 : Wd) (w : World) :
    Calls Tryz.prog 109 #[.agg #[.iface 74 (.pointer (some p))], .agg #[.int .i32 q0.v, .int .i32 q1.v, .int .i32 q2.v, .int .i32 q3.v], .int .i32 bx.v, .int .i32 bz.v, .agg #[.int .i32 f0.v, .int .i32 f1.v, .int .i32 f2.v]] w fun e w' => e = .returned (.agg #[.int .i32 (errorsW q0 q1 q2 q3 bx bz f0 f1 f2).a.v, .int .i32 (errorsW q0 q1 q2 q3 bx bz f0 f1 f2).b.v, .int .i32 (errorsW q0 q1 q2 q3 bx bz f0 f1 f2).c.v]) ∧ Chg w w' [] := by
  have k0 := Blk.new w 52 [.iface 74 (.pointer (some p))]
  have m0 := (((k0.alloc (.cells #[.int .i32 q0.v, .int .i32 q1.v, .int .i32 q2.v, .int .i32 q3.v] 27)).alloc (.cells #[.int .i32 f0.v, .int .i32 f1.v, .int .i32 f2.v] 22)).alloc (.cells #[.int .i32 0, .int .i32 0, .int .i32 0] 22))
  have g0_0 := m0.cell' (i := 0) rfl
  have k1 := Blk.new (w.alloc (.cells #[.iface 74 (.pointer (some p))] 52)) 27 [.int .i32 q0.v, .int .i32 q1.v, .int .i32 q2.v, .int .i32 q3.v]
  have m1 := ((k1.alloc (.cells #[.int .i32 f0.v, .int .i32 f1.v, .int .i32 f2.v] 22)).alloc (.cells #[.int .i32 0, .int .i32 0, .int .i32 0] 22))
  simp only [size_alloc] at m1
  have g1_0 := m1.cell' (i := 0) rfl
  have g1_1 := m1.cell' (i := 1) rfl
  have g1_2 := m1.cell' (i := 2) rfl
  have g1_3 := m1.cell' (i := 3) rfl
  have k2 := Blk.new ((w.alloc (.cells #[.iface 74 (.pointer (some p))] 52)).alloc (.cells #[.int .i32 q0.v, .int .i32 q1.v, .int .i32 q2.v, .int .i32 q3.v] 27)) 22 [.int .i32 f0.v, .int .i32 f1.v, .int .i32 f2.v]
  have m2 := (k2.alloc (.cells #[.int .i32 0, .int .i32 0, .int .i32 0] 22))
  simp only [size_alloc] at m2
  have g2_0 := m2.cell' (i := 0) rfl
  have g2_1 := m2.cell' (i := 1) rfl
  have g2_2 := m2.cell' (i := 2) rfl
  have k3 := Blk.new (((w.alloc (.cells #[.iface 74 (.pointer (some p))] 52)).alloc (.cells #[.int .i32 q0.v, .int .i32 q1.v, .int .i32 q2.v, .int .i32 q3.v] 27)).alloc (.cells #[.int .i32 f0.v, .int .i32 f1.v, .int .i32 f2.v] 22)) 22 [.int .i32 0, .int .i32 0, .int .i32 0]
  have m3 := k3
  simp only [size_alloc] at m3
  have g3_0 := m3.cell' (i := 0) rfl
  have g3_1 := m3.cell' (i := 1) rfl
  have g3_2 := m3.cell' (i := 2) rfl
  have HC := hide (((((Chg.refl w []).alloc (.cells #[.iface 74 (.pointer (some p))] 52)).alloc (.cells #[.int .i32 q0.v, .int .i32 q1.v, .int .i32 q2.v, .int .i32 q3.v] 27)).alloc (.cells #[.int .i32 f0.v, .int .i32 f1.v, .int .i32 f2.v] 22)).alloc (.cells #[.int .i32 0, .int .i32 0, .int .i32 0] 22))
  clear k0 k1 k2 k3
  have h1 := nil_const p
  have h2 := meth_const p
  go_enter Tryz.func109, Tryz.ntmps109
  go_wp2_with fail
  generalize ((((w.alloc (.cells #[.iface 74 (.pointer (some p))] 52)).alloc (.cells #[.int .i32 q0.v, .int .i32 q1.v, .int .i32 q2.v, .int .i32 q3.v] 27)).alloc (.cells #[.int .i32 f0.v, .int .i32 f1.v, .int .i32 f2.v] 22)).alloc (.cells #[.int .i32 0, .int .i32 0, .int .i32 0] 22)) = w6 at *
  obtain ⟨CL, hCL⟩ : ∃ l : List (Addr × Value), l = [(⟨w.heap.size, 0, none⟩, .iface 74 (.pointer (some p))), (⟨w.heap.size + 1, 0, none⟩, .int .i32 (q0).v), (⟨w.heap.size + 1, 1, none⟩, .int .i32 (q1).v), (⟨w.heap.size + 1, 2, none⟩, .int .i32 (q2).v), (⟨w.heap.size + 1, 3, none⟩, .int .i32 (q3).v), (⟨w.heap.size + 1 + 1, 0, none⟩, .int .i32 (f0).v), (⟨w.heap.size + 1 + 1, 1, none⟩, .int .i32 (f1).v), (⟨w.heap.size + 1 + 1, 2, none⟩, .int .i32 (f2).v)] := ⟨_, rfl⟩
  have HS0 : Sd w6 [w.heap.size + 1 + 1 + 1] CL w6.drew := ⟨(Chg.refl w6 _).drew, by rw [hCL]; simp only [List.forall_mem_cons]; exact ⟨g0_0, g1_0, g1_1, g1_2, g1_3, g2_0, g2_1, g2_2, by simp⟩⟩
  have hU0 : ∀ p ∈ CL, p.1.block ∈ ([w.heap.size, w.heap.size + 1, w.heap.size + 1 + 1] : List Nat) := by rw [hCL]; simp only [List.forall_mem_cons]; exact ⟨by simp, by simp, by simp, by simp, by simp, by simp, by simp, by simp, by simp⟩
  have hlt0 : ∀ u ∈ ([w.heap.size, w.heap.size + 1, w.heap.size + 1 + 1] : List Nat), u < w6.heap.size := by simp only [List.forall_mem_cons]; exact ⟨World.block_lt_of_cell? _ _ g0_0, World.block_lt_of_cell? _ _ g1_0, World.block_lt_of_cell? _ _ g2_0, by simp⟩
  refine Reg.wp_region (Reg.of 19 _ _ [.agg #[.iface 74 (.pointer (some p))], .pointer (some ⟨w.heap.size, 0, none⟩), .iface 74 (.pointer (some p)), .int .i32 (kW (536870912)).v, .func (.func 92) #[.agg #[.iface 74 (.pointer (some p))]] #[], .pointer (some ⟨w.heap.size + 1, 2, none⟩), .int .i32 (q2).v, .pointer (some ⟨w.heap.size + 1, 2, none⟩), .int .i32 (q2).v, .int .i32 (mulqW (q2) (q2)).v, .func (.func 92) #[.agg #[.iface 74 (.pointer (some p))]] #[], .pointer (some ⟨w.heap.size + 1, 3, none⟩), .int .i32 (q3).v, .pointer (some ⟨w.heap.size + 1, 3, none⟩), .int .i32 (q3).v, .int .i32 (mulqW (q3) (q3)).v, undef, .int .i32 (lessW (kW (536870912)) [mulqW (q2) (q2), mulqW (q3) (q3)]).v, .int .i32 (lessW (kW (536870912)) [mulqW (q2) (q2), mulqW (q3) (q3)]).v] [fun _ => undef, fun _ => undef, fun _ => undef, fun _ => undef, fun _ => undef, fun _ => undef, fun _ => undef, fun _ => undef, fun _ => undef, fun _ => undef, fun _ => undef, fun _ => undef, fun _ => undef, fun _ => undef, fun _ => undef, fun _ => undef, fun g => .slice (some ⟨g, 0, none⟩) 2 2, fun _ => undef, fun _ => undef] [.val, .val, .val, .val, .val, .val, .val, .val, .val, .val, .val, .val, .val, .val, .val, .val, .new 21 [.int .i32 (mulqW (q2) (q2)).v, .int .i32 (mulqW (q3) (q3)).v], .val, .val] [(22, [.int .i32 0, .int .i32 0, .int .i32 0])] [w.heap.size + 1 + 1 + 1] [] (fun _ => Sd w6 [w.heap.size + 1 + 1 + 1] CL) (Fd w6 [w.heap.size + 1 + 1 + 1] [w.heap.size, w.heap.size + 1, w.heap.size + 1 + 1])) (Reg.good_of _ 171 (by kernel_rfl) (by kernel_rfl)) (stands_d _ w6 [w.heap.size + 1 + 1 + 1] [w.heap.size, w.heap.size + 1, w.heap.size + 1 + 1] CL rfl rfl rfl hU0 hlt0) (by kernel_rfl) HS0 (hold_of (by kernel_rfl) ?holdwz1) (ne_of (by kernel_rfl) ?hnewz1) (Reg.steps_of _ rfl ⟨?_, ?_, ?_, ?_, ?_, ?_, ?_, ?_, ?_, ?_, ?_, ?_, ?_, ?_, ?_, ?_, ?_, ?_, ?_, trivial⟩) ?hendwz1
  case holdwz1 =>
    intro k T c hk
    cases k with
    | zero => simp only [List.getElem?_cons_zero, Option.some.injEq, Prod.mk.injEq] at hk; obtain ⟨rfl, rfl⟩ := hk; exact ⟨m3, ⟨by simp; try omega, .inl (by simp)⟩⟩
    | succ k =>
      simp at hk
  case hnewz1 => intro i j hi hj hne; simp at hi hj; omega
  case hendwz1 =>
    intro wz1 γ hSz hBz hnez hOz
    replace hSz : Sd w6 [w.heap.size + 1 + 1 + 1] CL wz1 := hSz
    have nb16 : Blk wz1 (γ 16) 21 [.int .i32 (mulqW (q2) (q2)).v, .int .i32 (mulqW (q3) (q3)).v] := (hBz 16 21 [.int .i32 (mulqW (q2) (q2)).v, .int .i32 (mulqW (q3) (q3)).v] (by kernel_rfl) [.int .i32 (mulqW (q2) (q2)).v, .int .i32 (mulqW (q3) (q3)).v] (by kernel_rfl)).1
    have nf16 : Fd w6 [w.heap.size + 1 + 1 + 1] [w.heap.size, w.heap.size + 1, w.heap.size + 1 + 1] wz1 (γ 16) := (hBz 16 21 [.int .i32 (mulqW (q2) (q2)).v, .int .i32 (mulqW (q3) (q3)).v] (by kernel_rfl) [.int .i32 (mulqW (q2) (q2)).v, .int .i32 (mulqW (q3) (q3)).v] (by kernel_rfl)).2.1
    have ob0 : Blk wz1 (w.heap.size + 1 + 1 + 1) 22 [.int .i32 0, .int .i32 0, .int .i32 0] := by have h := (hBz 19 22 [.int .i32 0, .int .i32 0, .int .i32 0] (by kernel_rfl) [.int .i32 0, .int .i32 0, .int .i32 0] (by kernel_rfl)).1; rw [hOz 19 (Nat.le_trans (Nat.le_of_eq (by kernel_rfl : _ = 19)) (by decide : 19 ≤ 19))] at h; exact h
    refine end_of [(12, .int .i32 (lessW (kW (536870912)) [mulqW (q2) (q2), mulqW (q3) (q3)]).v), (20, .agg #[.iface 74 (.pointer (some p))]), (21, .pointer (some ⟨w.heap.size, 0, none⟩)), (22, .iface 74 (.pointer (some p))), (23, .int .i32 (kW (536870912)).v), (24, .func (.func 92) #[.agg #[.iface 74 (.pointer (some p))]] #[]), (25, .pointer (some ⟨w.heap.size + 1, 2, none⟩)), (26, .int .i32 (q2).v), (27, .pointer (some ⟨w.heap.size + 1, 2, none⟩)), (28, .int .i32 (q2).v), (29, .int .i32 (mulqW (q2) (q2)).v), (30, .func (.func 92) #[.agg #[.iface 74 (.pointer (some p))]] #[]), (31, .pointer (some ⟨w.heap.size + 1, 3, none⟩)), (32, .int .i32 (q3).v), (33, .pointer (some ⟨w.heap.size + 1, 3, none⟩)), (34, .int .i32 (q3).v), (35, .int .i32 (mulqW (q3) (q3)).v), (36, .slice (some ⟨γ 16, 0, none⟩) 2 2), (37, .int .i32 (lessW (kW (536870912)) [mulqW (q2) (q2), mulqW (q3) (q3)]).v)] (by kernel_rfl) ?_
    clear hBz hnez hOz HS0 hU0
    simp only [Reg.of, List.foldl_cons, List.foldl_nil, List.setIfInBounds_toArray, List.set_cons_zero, List.set_cons_succ]
    generalize γ 16 = b16 at *
    have HC1 := hide (HC.out.trans hSz.chg (D := []) (by simp; try omega))
    have y1_0 : wz1.cell? ⟨w.heap.size, 0, none⟩ = some (.iface 74 (.pointer (some p))) := hSz.at_ 0 _ _ (by rw [hCL]; rfl)
    have y1_1 : wz1.cell? ⟨w.heap.size + 1, 0, none⟩ = some (.int .i32 (q0).v) := hSz.at_ 1 _ _ (by rw [hCL]; rfl)
    have y1_2 : wz1.cell? ⟨w.heap.size + 1, 1, none⟩ = some (.int .i32 (q1).v) := hSz.at_ 2 _ _ (by rw [hCL]; rfl)
    have y1_3 : wz1.cell? ⟨w.heap.size + 1, 2, none⟩ = some (.int .i32 (q2).v) := hSz.at_ 3 _ _ (by rw [hCL]; rfl)
    have y1_4 : wz1.cell? ⟨w.heap.size + 1, 3, none⟩ = some (.int .i32 (q3).v) := hSz.at_ 4 _ _ (by rw [hCL]; rfl)
    have y1_5 : wz1.cell? ⟨w.heap.size + 1 + 1, 0, none⟩ = some (.int .i32 (f0).v) := hSz.at_ 5 _ _ (by rw [hCL]; rfl)
    have y1_6 : wz1.cell? ⟨w.heap.size + 1 + 1, 1, none⟩ = some (.int .i32 (f1).v) := hSz.at_ 6 _ _ (by rw [hCL]; rfl)
    have y1_7 : wz1.cell? ⟨w.heap.size + 1 + 1, 2, none⟩ = some (.int .i32 (f2).v) := hSz.at_ 7 _ _ (by rw [hCL]; rfl)
    clear hSz hCL hlt0 CL g0_0 g1_0 g1_1 g1_2 g1_3 g2_0 g2_1 g2_2 HC m3
    have mo1_0 := ob0
    clear ob0
    clear nb16 nf16
    go_wp2_with fail
    obtain ⟨CL, hCL⟩ : ∃ l : List (Addr × Value), l = [(⟨w.heap.size, 0, none⟩, .iface 74 (.pointer (some p))), (⟨w.heap.size + 1, 0, none⟩, .int .i32 (q0).v), (⟨w.heap.size + 1, 1, none⟩, .int .i32 (q1).v), (⟨w.heap.size + 1, 2, none⟩, .int .i32 (q2).v), (⟨w.heap.size + 1, 3, none⟩, .int .i32 (q3).v), (⟨w.heap.size + 1 + 1, 0, none⟩, .int .i32 (f0).v), (⟨w.heap.size + 1 + 1, 1, none⟩, .int .i32 (f1).v), (⟨w.heap.size + 1 + 1, 2, none⟩, .int .i32 (f2).v)] := ⟨_, rfl⟩
    have HS0 : Sd wz1 [w.heap.size + 1 + 1 + 1] CL wz1.drew := ⟨(Chg.refl wz1 _).drew, by rw [hCL]; simp only [List.forall_mem_cons]; exact ⟨y1_0, y1_1, y1_2, y1_3, y1_4, y1_5, y1_6, y1_7, by simp⟩⟩
    have hU0 : ∀ p ∈ CL, p.1.block ∈ ([w.heap.size, w.heap.size + 1, w.heap.size + 1 + 1] : List Nat) := by rw [hCL]; simp only [List.forall_mem_cons]; exact ⟨by simp, by simp, by simp, by simp, by simp, by simp, by simp, by simp, by simp⟩
    have hlt0 : ∀ u ∈ ([w.heap.size, w.heap.size + 1, w.heap.size + 1 + 1] : List Nat), u < wz1.heap.size := by simp only [List.forall_mem_cons]; exact ⟨World.block_lt_of_cell? _ _ y1_0, World.block_lt_of_cell? _ _ y1_1, World.block_lt_of_cell? _ _ y1_5, by simp⟩
    refine Reg.wp_region (Reg.of 16 _ _ [.agg #[.iface 74 (.pointer (some p))], .func (.func 92) #[.agg #[.iface 74 (.pointer (some p))]] #[], .pointer (some ⟨w.heap.size + 1, 1, none⟩), .int .i32 (q1).v, .pointer (some ⟨w.heap.size + 1, 3, none⟩), .int .i32 (q3).v, .int .i32 (mulqW (q1) (q3)).v, .func (.func 92) #[.agg #[.iface 74 (.pointer (some p))]] #[], .pointer (some ⟨w.heap.size + 1, 0, none⟩), .int .i32 (q0).v, .pointer (some ⟨w.heap.size + 1, 2, none⟩), .int .i32 (q2).v, .int .i32 (mulqW (q0) (q2)).v, undef, .int .i32 (lessW (mulqW (q1) (q3)) [mulqW (q0) (q2)]).v, .int .i32 (lessW (mulqW (q1) (q3)) [mulqW (q0) (q2)]).v] [fun _ => undef, fun _ => undef, fun _ => undef, fun _ => undef, fun _ => undef, fun _ => undef, fun _ => undef, fun _ => undef, fun _ => undef, fun _ => undef, fun _ => undef, fun _ => undef, fun _ => undef, fun g => .slice (some ⟨g, 0, none⟩) 1 1, fun _ => undef, fun _ => undef] [.val, .val, .val, .val, .val, .val, .val, .val, .val, .val, .val, .val, .val, .new 21 [.int .i32 (mulqW (q0) (q2)).v], .val, .val] [(22, [.int .i32 0, .int .i32 0, .int .i32 0])] [w.heap.size + 1 + 1 + 1] [] (fun _ => Sd wz1 [w.heap.size + 1 + 1 + 1] CL) (Fd wz1 [w.heap.size + 1 + 1 + 1] [w.heap.size, w.heap.size + 1, w.heap.size + 1 + 1])) (Reg.good_of _ 171 (by kernel_rfl) (by kernel_rfl)) (stands_d _ wz1 [w.heap.size + 1 + 1 + 1] [w.heap.size, w.heap.size + 1, w.heap.size + 1 + 1] CL rfl rfl rfl hU0 hlt0) (by kernel_rfl) HS0 (hold_of (by kernel_rfl) ?holdwz2) (ne_of (by kernel_rfl) ?hnewz2) (Reg.steps_of _ rfl ⟨?_, ?_, ?_, ?_, ?_, ?_, ?_, ?_, ?_, ?_, ?_, ?_, ?_, ?_, ?_, ?_, trivial⟩) ?hendwz2
    case holdwz2 =>
      intro k T c hk
      cases k with
      | zero => simp only [List.getElem?_cons_zero, Option.some.injEq, Prod.mk.injEq] at hk; obtain ⟨rfl, rfl⟩ := hk; exact ⟨mo1_0, ⟨by simp; try omega, .inl (by simp)⟩⟩
      | succ k =>
        simp at hk
    case hnewz2 => intro i j hi hj hne; simp at hi hj; omega
    case hendwz2 =>
      intro wz2 γ hSz hBz hnez hOz
      replace hSz : Sd wz1 [w.heap.size + 1 + 1 + 1] CL wz2 := hSz
      have nb13 : Blk wz2 (γ 13) 21 [.int .i32 (mulqW (q0) (q2)).v] := (hBz 13 21 [.int .i32 (mulqW (q0) (q2)).v] (by kernel_rfl) [.int .i32 (mulqW (q0) (q2)).v] (by kernel_rfl)).1
      have nf13 : Fd wz1 [w.heap.size + 1 + 1 + 1] [w.heap.size, w.heap.size + 1, w.heap.size + 1 + 1] wz2 (γ 13) := (hBz 13 21 [.int .i32 (mulqW (q0) (q2)).v] (by kernel_rfl) [.int .i32 (mulqW (q0) (q2)).v] (by kernel_rfl)).2.1
      have ob0 : Blk wz2 (w.heap.size + 1 + 1 + 1) 22 [.int .i32 0, .int .i32 0, .int .i32 0] := by have h := (hBz 16 22 [.int .i32 0, .int .i32 0, .int .i32 0] (by kernel_rfl) [.int .i32 0, .int .i32 0, .int .i32 0] (by kernel_rfl)).1; rw [hOz 16 (Nat.le_trans (Nat.le_of_eq (by kernel_rfl : _ = 16)) (by decide : 16 ≤ 16))] at h; exact h
      refine end_of [(13, .int .i32 (lessW (mulqW (q1) (q3)) [mulqW (q0) (q2)]).v), (38, .agg #[.iface 74 (.pointer (some p))]), (39, .func (.func 92) #[.agg #[.iface 74 (.pointer (some p))]] #[]), (40, .pointer (some ⟨w.heap.size + 1, 1, none⟩)), (41, .int .i32 (q1).v), (42, .pointer (some ⟨w.heap.size + 1, 3, none⟩)), (43, .int .i32 (q3).v), (44, .int .i32 (mulqW (q1) (q3)).v), (45, .func (.func 92) #[.agg #[.iface 74 (.pointer (some p))]] #[]), (46, .pointer (some ⟨w.heap.size + 1, 0, none⟩)), (47, .int .i32 (q0).v), (48, .pointer (some ⟨w.heap.size + 1, 2, none⟩)), (49, .int .i32 (q2).v), (50, .int .i32 (mulqW (q0) (q2)).v), (51, .slice (some ⟨γ 13, 0, none⟩) 1 1), (52, .int .i32 (lessW (mulqW (q1) (q3)) [mulqW (q0) (q2)]).v)] (by kernel_rfl) ?_
      clear hBz hnez hOz HS0 hU0
      simp only [Reg.of, List.foldl_cons, List.foldl_nil, List.setIfInBounds_toArray, List.set_cons_zero, List.set_cons_succ]
      generalize γ 13 = b13 at *
      have HC2 := hide (HC1.out.trans hSz.chg (D := []) (by simp; try omega))
      have y2_0 : wz2.cell? ⟨w.heap.size, 0, none⟩ = some (.iface 74 (.pointer (some p))) := hSz.at_ 0 _ _ (by rw [hCL]; rfl)
      have y2_1 : wz2.cell? ⟨w.heap.size + 1, 0, none⟩ = some (.int .i32 (q0).v) := hSz.at_ 1 _ _ (by rw [hCL]; rfl)
      have y2_2 : wz2.cell? ⟨w.heap.size + 1, 1, none⟩ = some (.int .i32 (q1).v) := hSz.at_ 2 _ _ (by rw [hCL]; rfl)
      have y2_3 : wz2.cell? ⟨w.heap.size + 1, 2, none⟩ = some (.int .i32 (q2).v) := hSz.at_ 3 _ _ (by rw [hCL]; rfl)
      have y2_4 : wz2.cell? ⟨w.heap.size + 1, 3, none⟩ = some (.int .i32 (q3).v) := hSz.at_ 4 _ _ (by rw [hCL]; rfl)
      have y2_5 : wz2.cell? ⟨w.heap.size + 1 + 1, 0, none⟩ = some (.int .i32 (f0).v) := hSz.at_ 5 _ _ (by rw [hCL]; rfl)
      have y2_6 : wz2.cell? ⟨w.heap.size + 1 + 1, 1, none⟩ = some (.int .i32 (f1).v) := hSz.at_ 6 _ _ (by rw [hCL]; rfl)
      have y2_7 : wz2.cell? ⟨w.heap.size + 1 + 1, 2, none⟩ = some (.int .i32 (f2).v) := hSz.at_ 7 _ _ (by rw [hCL]; rfl)
      clear hSz hCL hlt0 CL y1_0 y1_1 y1_2 y1_3 y1_4 y1_5 y1_6 y1_7 HC1 mo1_0
      have mo2_0 := ob0
      clear ob0
      clear nb13 nf13
      go_wp2_with fail
      obtain ⟨CL, hCL⟩ : ∃ l : List (Addr × Value), l = [(⟨w.heap.size, 0, none⟩, .iface 74 (.pointer (some p))), (⟨w.heap.size + 1, 0, none⟩, .int .i32 (q0).v), (⟨w.heap.size + 1, 1, none⟩, .int .i32 (q1).v), (⟨w.heap.size + 1, 2, none⟩, .int .i32 (q2).v), (⟨w.heap.size + 1, 3, none⟩, .int .i32 (q3).v), (⟨w.heap.size + 1 + 1, 0, none⟩, .int .i32 (f0).v), (⟨w.heap.size + 1 + 1, 1, none⟩, .int .i32 (f1).v), (⟨w.heap.size + 1 + 1, 2, none⟩, .int .i32 (f2).v)] := ⟨_, rfl⟩
      have HS0 : Sd wz2 [w.heap.size + 1 + 1 + 1] CL wz2.drew := ⟨(Chg.refl wz2 _).drew, by rw [hCL]; simp only [List.forall_mem_cons]; exact ⟨y2_0, y2_1, y2_2, y2_3, y2_4, y2_5, y2_6, y2_7, by simp⟩⟩
      have hU0 : ∀ p ∈ CL, p.1.block ∈ ([w.heap.size, w.heap.size + 1, w.heap.size + 1 + 1] : List Nat) := by rw [hCL]; simp only [List.forall_mem_cons]; exact ⟨by simp, by simp, by simp, by simp, by simp, by simp, by simp, by simp, by simp⟩
      have hlt0 : ∀ u ∈ ([w.heap.size, w.heap.size + 1, w.heap.size + 1 + 1] : List Nat), u < wz2.heap.size := by simp only [List.forall_mem_cons]; exact ⟨World.block_lt_of_cell? _ _ y2_0, World.block_lt_of_cell? _ _ y2_1, World.block_lt_of_cell? _ _ y2_5, by simp⟩
      refine Reg.wp_region (Reg.of 16 _ _ [.agg #[.iface 74 (.pointer (some p))], .func (.func 92) #[.agg #[.iface 74 (.pointer (some p))]] #[], .pointer (some ⟨w.heap.size + 1, 1, none⟩), .int .i32 (q1).v, .pointer (some ⟨w.heap.size + 1, 2, none⟩), .int .i32 (q2).v, .int .i32 (mulqW (q1) (q2)).v, .func (.func 92) #[.agg #[.iface 74 (.pointer (some p))]] #[], .pointer (some ⟨w.heap.size + 1, 0, none⟩), .int .i32 (q0).v, .pointer (some ⟨w.heap.size + 1, 3, none⟩), .int .i32 (q3).v, .int .i32 (mulqW (q0) (q3)).v, undef, .int .i32 (lessW (mulqW (q1) (q2)) [mulqW (q0) (q3)]).v, .int .i32 (lessW (mulqW (q1) (q2)) [mulqW (q0) (q3)]).v] [fun _ => undef, fun _ => undef, fun _ => undef, fun _ => undef, fun _ => undef, fun _ => undef, fun _ => undef, fun _ => undef, fun _ => undef, fun _ => undef, fun _ => undef, fun _ => undef, fun _ => undef, fun g => .slice (some ⟨g, 0, none⟩) 1 1, fun _ => undef, fun _ => undef] [.val, .val, .val, .val, .val, .val, .val, .val, .val, .val, .val, .val, .val, .new 21 [.int .i32 (mulqW (q0) (q3)).v], .val, .val] [(22, [.int .i32 0, .int .i32 0, .int .i32 0])] [w.heap.size + 1 + 1 + 1] [] (fun _ => Sd wz2 [w.heap.size + 1 + 1 + 1] CL) (Fd wz2 [w.heap.size + 1 + 1 + 1] [w.heap.size, w.heap.size + 1, w.heap.size + 1 + 1])) (Reg.good_of _ 171 (by kernel_rfl) (by kernel_rfl)) (stands_d _ wz2 [w.heap.size + 1 + 1 + 1] [w.heap.size, w.heap.size + 1, w.heap.size + 1 + 1] CL rfl rfl rfl hU0 hlt0) (by kernel_rfl) HS0 (hold_of (by kernel_rfl) ?holdwz3) (ne_of (by kernel_rfl) ?hnewz3) (Reg.steps_of _ rfl ⟨?_, ?_, ?_, ?_, ?_, ?_, ?_, ?_, ?_, ?_, ?_, ?_, ?_, ?_, ?_, ?_, trivial⟩) ?hendwz3
      case holdwz3 =>
        intro k T c hk
        cases k with
        | zero => simp only [List.getElem?_cons_zero, Option.some.injEq, Prod.mk.injEq] at hk; obtain ⟨rfl, rfl⟩ := hk; exact ⟨mo2_0, ⟨by simp; try omega, .inl (by simp)⟩⟩
        | succ k =>
          simp at hk
      case hnewz3 => intro i j hi hj hne; simp at hi hj; omega
      case hendwz3 =>
        intro wz3 γ hSz hBz hnez hOz
        replace hSz : Sd wz2 [w.heap.size + 1 + 1 + 1] CL wz3 := hSz
        have nb13 : Blk wz3 (γ 13) 21 [.int .i32 (mulqW (q0) (q3)).v] := (hBz 13 21 [.int .i32 (mulqW (q0) (q3)).v] (by kernel_rfl) [.int .i32 (mulqW (q0) (q3)).v] (by kernel_rfl)).1
        have nf13 : Fd wz2 [w.heap.size + 1 + 1 + 1] [w.heap.size, w.heap.size + 1, w.heap.size + 1 + 1] wz3 (γ 13) := (hBz 13 21 [.int .i32 (mulqW (q0) (q3)).v] (by kernel_rfl) [.int .i32 (mulqW (q0) (q3)).v] (by kernel_rfl)).2.1
        have ob0 : Blk wz3 (w.heap.size + 1 + 1 + 1) 22 [.int .i32 0, .int .i32 0, .int .i32 0] := by have h := (hBz 16 22 [.int .i32 0, .int .i32 0, .int .i32 0] (by kernel_rfl) [.int .i32 0, .int .i32 0, .int .i32 0] (by kernel_rfl)).1; rw [hOz 16 (Nat.le_trans (Nat.le_of_eq (by kernel_rfl : _ = 16)) (by decide : 16 ≤ 16))] at h; exact h
        refine end_of [(14, .int .i32 (lessW (mulqW (q1) (q2)) [mulqW (q0) (q3)]).v), (53, .agg #[.iface 74 (.pointer (some p))]), (54, .func (.func 92) #[.agg #[.iface 74 (.pointer (some p))]] #[]), (55, .pointer (some ⟨w.heap.size + 1, 1, none⟩)), (56, .int .i32 (q1).v), (57, .pointer (some ⟨w.heap.size + 1, 2, none⟩)), (58, .int .i32 (q2).v), (59, .int .i32 (mulqW (q1) (q2)).v), (60, .func (.func 92) #[.agg #[.iface 74 (.pointer (some p))]] #[]), (61, .pointer (some ⟨w.heap.size + 1, 0, none⟩)), (62, .int .i32 (q0).v), (63, .pointer (some ⟨w.heap.size + 1, 3, none⟩)), (64, .int .i32 (q3).v), (65, .int .i32 (mulqW (q0) (q3)).v), (66, .slice (some ⟨γ 13, 0, none⟩) 1 1), (67, .int .i32 (lessW (mulqW (q1) (q2)) [mulqW (q0) (q3)]).v)] (by kernel_rfl) ?_
        clear hBz hnez hOz HS0 hU0
        simp only [Reg.of, List.foldl_cons, List.foldl_nil, List.setIfInBounds_toArray, List.set_cons_zero, List.set_cons_succ]
        generalize γ 13 = b13 at *
        have HC3 := hide (HC2.out.trans hSz.chg (D := []) (by simp; try omega))
        have y3_0 : wz3.cell? ⟨w.heap.size, 0, none⟩ = some (.iface 74 (.pointer (some p))) := hSz.at_ 0 _ _ (by rw [hCL]; rfl)
        have y3_1 : wz3.cell? ⟨w.heap.size + 1, 0, none⟩ = some (.int .i32 (q0).v) := hSz.at_ 1 _ _ (by rw [hCL]; rfl)
        have y3_2 : wz3.cell? ⟨w.heap.size + 1, 1, none⟩ = some (.int .i32 (q1).v) := hSz.at_ 2 _ _ (by rw [hCL]; rfl)
        have y3_3 : wz3.cell? ⟨w.heap.size + 1, 2, none⟩ = some (.int .i32 (q2).v) := hSz.at_ 3 _ _ (by rw [hCL]; rfl)
        have y3_4 : wz3.cell? ⟨w.heap.size + 1, 3, none⟩ = some (.int .i32 (q3).v) := hSz.at_ 4 _ _ (by rw [hCL]; rfl)
        have y3_5 : wz3.cell? ⟨w.heap.size + 1 + 1, 0, none⟩ = some (.int .i32 (f0).v) := hSz.at_ 5 _ _ (by rw [hCL]; rfl)
        have y3_6 : wz3.cell? ⟨w.heap.size + 1 + 1, 1, none⟩ = some (.int .i32 (f1).v) := hSz.at_ 6 _ _ (by rw [hCL]; rfl)
        have y3_7 : wz3.cell? ⟨w.heap.size + 1 + 1, 2, none⟩ = some (.int .i32 (f2).v) := hSz.at_ 7 _ _ (by rw [hCL]; rfl)
        clear hSz hCL hlt0 CL y2_0 y2_1 y2_2 y2_3 y2_4 y2_5 y2_6 y2_7 HC2 mo2_0
        have mo3_0 := ob0
        clear ob0
        clear nb13 nf13
        go_wp2_with fail
        obtain ⟨CL, hCL⟩ : ∃ l : List (Addr × Value), l = [(⟨w.heap.size, 0, none⟩, .iface 74 (.pointer (some p))), (⟨w.heap.size + 1, 0, none⟩, .int .i32 (q0).v), (⟨w.heap.size + 1, 1, none⟩, .int .i32 (q1).v), (⟨w.heap.size + 1, 2, none⟩, .int .i32 (q2).v), (⟨w.heap.size + 1, 3, none⟩, .int .i32 (q3).v), (⟨w.heap.size + 1 + 1, 0, none⟩, .int .i32 (f0).v), (⟨w.heap.size + 1 + 1, 1, none⟩, .int .i32 (f1).v), (⟨w.heap.size + 1 + 1, 2, none⟩, .int .i32 (f2).v)] := ⟨_, rfl⟩
        have HS0 : Sd wz3 [w.heap.size + 1 + 1 + 1] CL wz3.drew := ⟨(Chg.refl wz3 _).drew, by rw [hCL]; simp only [List.forall_mem_cons]; exact ⟨y3_0, y3_1, y3_2, y3_3, y3_4, y3_5, y3_6, y3_7, by simp⟩⟩
        have hU0 : ∀ p ∈ CL, p.1.block ∈ ([w.heap.size, w.heap.size + 1, w.heap.size + 1 + 1] : List Nat) := by rw [hCL]; simp only [List.forall_mem_cons]; exact ⟨by simp, by simp, by simp, by simp, by simp, by simp, by simp, by simp, by simp⟩
        have hlt0 : ∀ u ∈ ([w.heap.size, w.heap.size + 1, w.heap.size + 1 + 1] : List Nat), u < wz3.heap.size := by simp only [List.forall_mem_cons]; exact ⟨World.block_lt_of_cell? _ _ y3_0, World.block_lt_of_cell? _ _ y3_1, World.block_lt_of_cell? _ _ y3_5, by simp⟩
        refine Reg.wp_region (Reg.of 16 _ _ [.agg #[.iface 74 (.pointer (some p))], .func (.func 92) #[.agg #[.iface 74 (.pointer (some p))]] #[], .pointer (some ⟨w.heap.size + 1, 0, none⟩), .int .i32 (q0).v, .pointer (some ⟨w.heap.size + 1, 1, none⟩), .int .i32 (q1).v, .int .i32 (mulqW (q0) (q1)).v, .func (.func 92) #[.agg #[.iface 74 (.pointer (some p))]] #[], .pointer (some ⟨w.heap.size + 1, 2, none⟩), .int .i32 (q2).v, .pointer (some ⟨w.heap.size + 1, 3, none⟩), .int .i32 (q3).v, .int .i32 (mulqW (q2) (q3)).v, undef, .int .i32 (moreW (mulqW (q0) (q1)) [mulqW (q2) (q3)]).v, .int .i32 (moreW (mulqW (q0) (q1)) [mulqW (q2) (q3)]).v] [fun _ => undef, fun _ => undef, fun _ => undef, fun _ => undef, fun _ => undef, fun _ => undef, fun _ => undef, fun _ => undef, fun _ => undef, fun _ => undef, fun _ => undef, fun _ => undef, fun _ => undef, fun g => .slice (some ⟨g, 0, none⟩) 1 1, fun _ => undef, fun _ => undef] [.val, .val, .val, .val, .val, .val, .val, .val, .val, .val, .val, .val, .val, .new 21 [.int .i32 (mulqW (q2) (q3)).v], .val, .val] [(22, [.int .i32 0, .int .i32 0, .int .i32 0])] [w.heap.size + 1 + 1 + 1] [] (fun _ => Sd wz3 [w.heap.size + 1 + 1 + 1] CL) (Fd wz3 [w.heap.size + 1 + 1 + 1] [w.heap.size, w.heap.size + 1, w.heap.size + 1 + 1])) (Reg.good_of _ 171 (by kernel_rfl) (by kernel_rfl)) (stands_d _ wz3 [w.heap.size + 1 + 1 + 1] [w.heap.size, w.heap.size + 1, w.heap.size + 1 + 1] CL rfl rfl rfl hU0 hlt0) (by kernel_rfl) HS0 (hold_of (by kernel_rfl) ?holdwz4) (ne_of (by kernel_rfl) ?hnewz4) (Reg.steps_of _ rfl ⟨?_, ?_, ?_, ?_, ?_, ?_, ?_, ?_, ?_, ?_, ?_, ?_, ?_, ?_, ?_, ?_, trivial⟩) ?hendwz4
        case holdwz4 =>
          intro k T c hk
          cases k with
          | zero => simp only [List.getElem?_cons_zero, Option.some.injEq, Prod.mk.injEq] at hk; obtain ⟨rfl, rfl⟩ := hk; exact ⟨mo3_0, ⟨by simp; try omega, .inl (by simp)⟩⟩
          | succ k =>
            simp at hk
        case hnewz4 => intro i j hi hj hne; simp at hi hj; omega
        case hendwz4 =>
          intro wz4 γ hSz hBz hnez hOz
          replace hSz : Sd wz3 [w.heap.size + 1 + 1 + 1] CL wz4 := hSz
          have nb13 : Blk wz4 (γ 13) 21 [.int .i32 (mulqW (q2) (q3)).v] := (hBz 13 21 [.int .i32 (mulqW (q2) (q3)).v] (by kernel_rfl) [.int .i32 (mulqW (q2) (q3)).v] (by kernel_rfl)).1
          have nf13 : Fd wz3 [w.heap.size + 1 + 1 + 1] [w.heap.size, w.heap.size + 1, w.heap.size + 1 + 1] wz4 (γ 13) := (hBz 13 21 [.int .i32 (mulqW (q2) (q3)).v] (by kernel_rfl) [.int .i32 (mulqW (q2) (q3)).v] (by kernel_rfl)).2.1
          have ob0 : Blk wz4 (w.heap.size + 1 + 1 + 1) 22 [.int .i32 0, .int .i32 0, .int .i32 0] := by have h := (hBz 16 22 [.int .i32 0, .int .i32 0, .int .i32 0] (by kernel_rfl) [.int .i32 0, .int .i32 0, .int .i32 0] (by kernel_rfl)).1; rw [hOz 16 (Nat.le_trans (Nat.le_of_eq (by kernel_rfl : _ = 16)) (by decide : 16 ≤ 16))] at h; exact h
          refine end_of [(15, .int .i32 (moreW (mulqW (q0) (q1)) [mulqW (q2) (q3)]).v), (68, .agg #[.iface 74 (.pointer (some p))]), (69, .func (.func 92) #[.agg #[.iface 74 (.pointer (some p))]] #[]), (70, .pointer (some ⟨w.heap.size + 1, 0, none⟩)), (71, .int .i32 (q0).v), (72, .pointer (some ⟨w.heap.size + 1, 1, none⟩)), (73, .int .i32 (q1).v), (74, .int .i32 (mulqW (q0) (q1)).v), (75, .func (.func 92) #[.agg #[.iface 74 (.pointer (some p))]] #[]), (76, .pointer (some ⟨w.heap.size + 1, 2, none⟩)), (77, .int .i32 (q2).v), (78, .pointer (some ⟨w.heap.size + 1, 3, none⟩)), (79, .int .i32 (q3).v), (80, .int .i32 (mulqW (q2) (q3)).v), (81, .slice (some ⟨γ 13, 0, none⟩) 1 1), (82, .int .i32 (moreW (mulqW (q0) (q1)) [mulqW (q2) (q3)]).v)] (by kernel_rfl) ?_
          clear hBz hnez hOz HS0 hU0
          simp only [Reg.of, List.foldl_cons, List.foldl_nil, List.setIfInBounds_toArray, List.set_cons_zero, List.set_cons_succ]
          generalize γ 13 = b13 at *
          have HC4 := hide (HC3.out.trans hSz.chg (D := []) (by simp; try omega))
          have y4_0 : wz4.cell? ⟨w.heap.size, 0, none⟩ = some (.iface 74 (.pointer (some p))) := hSz.at_ 0 _ _ (by rw [hCL]; rfl)
          have y4_1 : wz4.cell? ⟨w.heap.size + 1, 0, none⟩ = some (.int .i32 (q0).v) := hSz.at_ 1 _ _ (by rw [hCL]; rfl)
          have y4_2 : wz4.cell? ⟨w.heap.size + 1, 1, none⟩ = some (.int .i32 (q1).v) := hSz.at_ 2 _ _ (by rw [hCL]; rfl)
          have y4_3 : wz4.cell? ⟨w.heap.size + 1, 2, none⟩ = some (.int .i32 (q2).v) := hSz.at_ 3 _ _ (by rw [hCL]; rfl)
          have y4_4 : wz4.cell? ⟨w.heap.size + 1, 3, none⟩ = some (.int .i32 (q3).v) := hSz.at_ 4 _ _ (by rw [hCL]; rfl)
          have y4_5 : wz4.cell? ⟨w.heap.size + 1 + 1, 0, none⟩ = some (.int .i32 (f0).v) := hSz.at_ 5 _ _ (by rw [hCL]; rfl)
          have y4_6 : wz4.cell? ⟨w.heap.size + 1 + 1, 1, none⟩ = some (.int .i32 (f1).v) := hSz.at_ 6 _ _ (by rw [hCL]; rfl)
          have y4_7 : wz4.cell? ⟨w.heap.size + 1 + 1, 2, none⟩ = some (.int .i32 (f2).v) := hSz.at_ 7 _ _ (by rw [hCL]; rfl)
          clear hSz hCL hlt0 CL y3_0 y3_1 y3_2 y3_3 y3_4 y3_5 y3_6 y3_7 HC3 mo3_0
          have mo4_0 := ob0
          clear ob0
          clear nb13 nf13
          go_wp2_with fail
          obtain ⟨CL, hCL⟩ : ∃ l : List (Addr × Value), l = [(⟨w.heap.size, 0, none⟩, .iface 74 (.pointer (some p))), (⟨w.heap.size + 1, 0, none⟩, .int .i32 (q0).v), (⟨w.heap.size + 1, 1, none⟩, .int .i32 (q1).v), (⟨w.heap.size + 1, 2, none⟩, .int .i32 (q2).v), (⟨w.heap.size + 1, 3, none⟩, .int .i32 (q3).v), (⟨w.heap.size + 1 + 1, 0, none⟩, .int .i32 (f0).v), (⟨w.heap.size + 1 + 1, 1, none⟩, .int .i32 (f1).v), (⟨w.heap.size + 1 + 1, 2, none⟩, .int .i32 (f2).v)] := ⟨_, rfl⟩
          have HS0 : Sd wz4 [w.heap.size + 1 + 1 + 1] CL wz4.drew := ⟨(Chg.refl wz4 _).drew, by rw [hCL]; simp only [List.forall_mem_cons]; exact ⟨y4_0, y4_1, y4_2, y4_3, y4_4, y4_5, y4_6, y4_7, by simp⟩⟩
          have hU0 : ∀ p ∈ CL, p.1.block ∈ ([w.heap.size, w.heap.size + 1, w.heap.size + 1 + 1] : List Nat) := by rw [hCL]; simp only [List.forall_mem_cons]; exact ⟨by simp, by simp, by simp, by simp, by simp, by simp, by simp, by simp, by simp⟩
          have hlt0 : ∀ u ∈ ([w.heap.size, w.heap.size + 1, w.heap.size + 1 + 1] : List Nat), u < wz4.heap.size := by simp only [List.forall_mem_cons]; exact ⟨World.block_lt_of_cell? _ _ y4_0, World.block_lt_of_cell? _ _ y4_1, World.block_lt_of_cell? _ _ y4_5, by simp⟩
          refine Reg.wp_region (Reg.of 16 _ _ [.agg #[.iface 74 (.pointer (some p))], .func (.func 92) #[.agg #[.iface 74 (.pointer (some p))]] #[], .pointer (some ⟨w.heap.size + 1, 0, none⟩), .int .i32 (q0).v, .pointer (some ⟨w.heap.size + 1, 2, none⟩), .int .i32 (q2).v, .int .i32 (mulqW (q0) (q2)).v, .func (.func 92) #[.agg #[.iface 74 (.pointer (some p))]] #[], .pointer (some ⟨w.heap.size + 1, 1, none⟩), .int .i32 (q1).v, .pointer (some ⟨w.heap.size + 1, 3, none⟩), .int .i32 (q3).v, .int .i32 (mulqW (q1) (q3)).v, undef, .int .i32 (moreW (mulqW (q0) (q2)) [mulqW (q1) (q3)]).v, .int .i32 (moreW (mulqW (q0) (q2)) [mulqW (q1) (q3)]).v] [fun _ => undef, fun _ => undef, fun _ => undef, fun _ => undef, fun _ => undef, fun _ => undef, fun _ => undef, fun _ => undef, fun _ => undef, fun _ => undef, fun _ => undef, fun _ => undef, fun _ => undef, fun g => .slice (some ⟨g, 0, none⟩) 1 1, fun _ => undef, fun _ => undef] [.val, .val, .val, .val, .val, .val, .val, .val, .val, .val, .val, .val, .val, .new 21 [.int .i32 (mulqW (q1) (q3)).v], .val, .val] [(22, [.int .i32 0, .int .i32 0, .int .i32 0])] [w.heap.size + 1 + 1 + 1] [] (fun _ => Sd wz4 [w.heap.size + 1 + 1 + 1] CL) (Fd wz4 [w.heap.size + 1 + 1 + 1] [w.heap.size, w.heap.size + 1, w.heap.size + 1 + 1])) (Reg.good_of _ 171 (by kernel_rfl) (by kernel_rfl)) (stands_d _ wz4 [w.heap.size + 1 + 1 + 1] [w.heap.size, w.heap.size + 1, w.heap.size + 1 + 1] CL rfl rfl rfl hU0 hlt0) (by kernel_rfl) HS0 (hold_of (by kernel_rfl) ?holdwz5) (ne_of (by kernel_rfl) ?hnewz5) (Reg.steps_of _ rfl ⟨?_, ?_, ?_, ?_, ?_, ?_, ?_, ?_, ?_, ?_, ?_, ?_, ?_, ?_, ?_, ?_, trivial⟩) ?hendwz5
          case holdwz5 =>
            intro k T c hk
            cases k with
            | zero => simp only [List.getElem?_cons_zero, Option.some.injEq, Prod.mk.injEq] at hk; obtain ⟨rfl, rfl⟩ := hk; exact ⟨mo4_0, ⟨by simp; try omega, .inl (by simp)⟩⟩
            | succ k =>
              simp at hk
          case hnewz5 => intro i j hi hj hne; simp at hi hj; omega
          case hendwz5 =>
            intro wz5 γ hSz hBz hnez hOz
            replace hSz : Sd wz4 [w.heap.size + 1 + 1 + 1] CL wz5 := hSz
            have nb13 : Blk wz5 (γ 13) 21 [.int .i32 (mulqW (q1) (q3)).v] := (hBz 13 21 [.int .i32 (mulqW (q1) (q3)).v] (by kernel_rfl) [.int .i32 (mulqW (q1) (q3)).v] (by kernel_rfl)).1
            have nf13 : Fd wz4 [w.heap.size + 1 + 1 + 1] [w.heap.size, w.heap.size + 1, w.heap.size + 1 + 1] wz5 (γ 13) := (hBz 13 21 [.int .i32 (mulqW (q1) (q3)).v] (by kernel_rfl) [.int .i32 (mulqW (q1) (q3)).v] (by kernel_rfl)).2.1
            have ob0 : Blk wz5 (w.heap.size + 1 + 1 + 1) 22 [.int .i32 0, .int .i32 0, .int .i32 0] := by have h := (hBz 16 22 [.int .i32 0, .int .i32 0, .int .i32 0] (by kernel_rfl) [.int .i32 0, .int .i32 0, .int .i32 0] (by kernel_rfl)).1; rw [hOz 16 (Nat.le_trans (Nat.le_of_eq (by kernel_rfl : _ = 16)) (by decide : 16 ≤ 16))] at h; exact h
            refine end_of [(16, .int .i32 (moreW (mulqW (q0) (q2)) [mulqW (q1) (q3)]).v), (83, .agg #[.iface 74 (.pointer (some p))]), (84, .func (.func 92) #[.agg #[.iface 74 (.pointer (some p))]] #[]), (85, .pointer (some ⟨w.heap.size + 1, 0, none⟩)), (86, .int .i32 (q0).v), (87, .pointer (some ⟨w.heap.size + 1, 2, none⟩)), (88, .int .i32 (q2).v), (89, .int .i32 (mulqW (q0) (q2)).v), (90, .func (.func 92) #[.agg #[.iface 74 (.pointer (some p))]] #[]), (91, .pointer (some ⟨w.heap.size + 1, 1, none⟩)), (92, .int .i32 (q1).v), (93, .pointer (some ⟨w.heap.size + 1, 3, none⟩)), (94, .int .i32 (q3).v), (95, .int .i32 (mulqW (q1) (q3)).v), (96, .slice (some ⟨γ 13, 0, none⟩) 1 1), (97, .int .i32 (moreW (mulqW (q0) (q2)) [mulqW (q1) (q3)]).v)] (by kernel_rfl) ?_
            clear hBz hnez hOz HS0 hU0
            simp only [Reg.of, List.foldl_cons, List.foldl_nil, List.setIfInBounds_toArray, List.set_cons_zero, List.set_cons_succ]
            generalize γ 13 = b13 at *
            have HC5 := hide (HC4.out.trans hSz.chg (D := []) (by simp; try omega))
            have y5_0 : wz5.cell? ⟨w.heap.size, 0, none⟩ = some (.iface 74 (.pointer (some p))) := hSz.at_ 0 _ _ (by rw [hCL]; rfl)
            have y5_1 : wz5.cell? ⟨w.heap.size + 1, 0, none⟩ = some (.int .i32 (q0).v) := hSz.at_ 1 _ _ (by rw [hCL]; rfl)
            have y5_2 : wz5.cell? ⟨w.heap.size + 1, 1, none⟩ = some (.int .i32 (q1).v) := hSz.at_ 2 _ _ (by rw [hCL]; rfl)
            have y5_3 : wz5.cell? ⟨w.heap.size + 1, 2, none⟩ = some (.int .i32 (q2).v) := hSz.at_ 3 _ _ (by rw [hCL]; rfl)
            have y5_4 : wz5.cell? ⟨w.heap.size + 1, 3, none⟩ = some (.int .i32 (q3).v) := hSz.at_ 4 _ _ (by rw [hCL]; rfl)
            have y5_5 : wz5.cell? ⟨w.heap.size + 1 + 1, 0, none⟩ = some (.int .i32 (f0).v) := hSz.at_ 5 _ _ (by rw [hCL]; rfl)
            have y5_6 : wz5.cell? ⟨w.heap.size + 1 + 1, 1, none⟩ = some (.int .i32 (f1).v) := hSz.at_ 6 _ _ (by rw [hCL]; rfl)
            have y5_7 : wz5.cell? ⟨w.heap.size + 1 + 1, 2, none⟩ = some (.int .i32 (f2).v) := hSz.at_ 7 _ _ (by rw [hCL]; rfl)
            clear hSz hCL hlt0 CL y4_0 y4_1 y4_2 y4_3 y4_4 y4_5 y4_6 y4_7 HC4 mo4_0
            have mo5_0 := ob0
            clear ob0
            clear nb13 nf13
            go_wp2_with fail
            obtain ⟨CL, hCL⟩ : ∃ l : List (Addr × Value), l = [(⟨w.heap.size, 0, none⟩, .iface 74 (.pointer (some p))), (⟨w.heap.size + 1, 0, none⟩, .int .i32 (q0).v), (⟨w.heap.size + 1, 1, none⟩, .int .i32 (q1).v), (⟨w.heap.size + 1, 2, none⟩, .int .i32 (q2).v), (⟨w.heap.size + 1, 3, none⟩, .int .i32 (q3).v), (⟨w.heap.size + 1 + 1, 0, none⟩, .int .i32 (f0).v), (⟨w.heap.size + 1 + 1, 1, none⟩, .int .i32 (f1).v), (⟨w.heap.size + 1 + 1, 2, none⟩, .int .i32 (f2).v)] := ⟨_, rfl⟩
            have HS0 : Sd wz5 [w.heap.size + 1 + 1 + 1] CL wz5.drew := ⟨(Chg.refl wz5 _).drew, by rw [hCL]; simp only [List.forall_mem_cons]; exact ⟨y5_0, y5_1, y5_2, y5_3, y5_4, y5_5, y5_6, y5_7, by simp⟩⟩
            have hU0 : ∀ p ∈ CL, p.1.block ∈ ([w.heap.size, w.heap.size + 1, w.heap.size + 1 + 1] : List Nat) := by rw [hCL]; simp only [List.forall_mem_cons]; exact ⟨by simp, by simp, by simp, by simp, by simp, by simp, by simp, by simp, by simp⟩
            have hlt0 : ∀ u ∈ ([w.heap.size, w.heap.size + 1, w.heap.size + 1 + 1] : List Nat), u < wz5.heap.size := by simp only [List.forall_mem_cons]; exact ⟨World.block_lt_of_cell? _ _ y5_0, World.block_lt_of_cell? _ _ y5_1, World.block_lt_of_cell? _ _ y5_5, by simp⟩
            refine Reg.wp_region (Reg.of 19 _ _ [.agg #[.iface 74 (.pointer (some p))], .pointer (some ⟨w.heap.size, 0, none⟩), .iface 74 (.pointer (some p)), .int .i32 (kW (536870912)).v, .func (.func 92) #[.agg #[.iface 74 (.pointer (some p))]] #[], .pointer (some ⟨w.heap.size + 1, 1, none⟩), .int .i32 (q1).v, .pointer (some ⟨w.heap.size + 1, 1, none⟩), .int .i32 (q1).v, .int .i32 (mulqW (q1) (q1)).v, .func (.func 92) #[.agg #[.iface 74 (.pointer (some p))]] #[], .pointer (some ⟨w.heap.size + 1, 2, none⟩), .int .i32 (q2).v, .pointer (some ⟨w.heap.size + 1, 2, none⟩), .int .i32 (q2).v, .int .i32 (mulqW (q2) (q2)).v, undef, .int .i32 (lessW (kW (536870912)) [mulqW (q1) (q1), mulqW (q2) (q2)]).v, .int .i32 (lessW (kW (536870912)) [mulqW (q1) (q1), mulqW (q2) (q2)]).v] [fun _ => undef, fun _ => undef, fun _ => undef, fun _ => undef, fun _ => undef, fun _ => undef, fun _ => undef, fun _ => undef, fun _ => undef, fun _ => undef, fun _ => undef, fun _ => undef, fun _ => undef, fun _ => undef, fun _ => undef, fun _ => undef, fun g => .slice (some ⟨g, 0, none⟩) 2 2, fun _ => undef, fun _ => undef] [.val, .val, .val, .val, .val, .val, .val, .val, .val, .val, .val, .val, .val, .val, .val, .val, .new 21 [.int .i32 (mulqW (q1) (q1)).v, .int .i32 (mulqW (q2) (q2)).v], .val, .val] [(22, [.int .i32 0, .int .i32 0, .int .i32 0])] [w.heap.size + 1 + 1 + 1] [] (fun _ => Sd wz5 [w.heap.size + 1 + 1 + 1] CL) (Fd wz5 [w.heap.size + 1 + 1 + 1] [w.heap.size, w.heap.size + 1, w.heap.size + 1 + 1])) (Reg.good_of _ 171 (by kernel_rfl) (by kernel_rfl)) (stands_d _ wz5 [w.heap.size + 1 + 1 + 1] [w.heap.size, w.heap.size + 1, w.heap.size + 1 + 1] CL rfl rfl rfl hU0 hlt0) (by kernel_rfl) HS0 (hold_of (by kernel_rfl) ?holdwz6) (ne_of (by kernel_rfl) ?hnewz6) (Reg.steps_of _ rfl ⟨?_, ?_, ?_, ?_, ?_, ?_, ?_, ?_, ?_, ?_, ?_, ?_, ?_, ?_, ?_, ?_, ?_, ?_, ?_, trivial⟩) ?hendwz6
            case holdwz6 =>
              intro k T c hk
              cases k with
              | zero => simp only [List.getElem?_cons_zero, Option.some.injEq, Prod.mk.injEq] at hk; obtain ⟨rfl, rfl⟩ := hk; exact ⟨mo5_0, ⟨by simp; try omega, .inl (by simp)⟩⟩
              | succ k =>
                simp at hk
            case hnewz6 => intro i j hi hj hne; simp at hi hj; omega
            case hendwz6 =>
              intro wz6 γ hSz hBz hnez hOz
              replace hSz : Sd wz5 [w.heap.size + 1 + 1 + 1] CL wz6 := hSz
              have nb16 : Blk wz6 (γ 16) 21 [.int .i32 (mulqW (q1) (q1)).v, .int .i32 (mulqW (q2) (q2)).v] := (hBz 16 21 [.int .i32 (mulqW (q1) (q1)).v, .int .i32 (mulqW (q2) (q2)).v] (by kernel_rfl) [.int .i32 (mulqW (q1) (q1)).v, .int .i32 (mulqW (q2) (q2)).v] (by kernel_rfl)).1
              have nf16 : Fd wz5 [w.heap.size + 1 + 1 + 1] [w.heap.size, w.heap.size + 1, w.heap.size + 1 + 1] wz6 (γ 16) := (hBz 16 21 [.int .i32 (mulqW (q1) (q1)).v, .int .i32 (mulqW (q2) (q2)).v] (by kernel_rfl) [.int .i32 (mulqW (q1) (q1)).v, .int .i32 (mulqW (q2) (q2)).v] (by kernel_rfl)).2.1
              have ob0 : Blk wz6 (w.heap.size + 1 + 1 + 1) 22 [.int .i32 0, .int .i32 0, .int .i32 0] := by have h := (hBz 19 22 [.int .i32 0, .int .i32 0, .int .i32 0] (by kernel_rfl) [.int .i32 0, .int .i32 0, .int .i32 0] (by kernel_rfl)).1; rw [hOz 19 (Nat.le_trans (Nat.le_of_eq (by kernel_rfl : _ = 19)) (by decide : 19 ≤ 19))] at h; exact h
              refine end_of [(17, .int .i32 (lessW (kW (536870912)) [mulqW (q1) (q1), mulqW (q2) (q2)]).v), (98, .agg #[.iface 74 (.pointer (some p))]), (99, .pointer (some ⟨w.heap.size, 0, none⟩)), (100, .iface 74 (.pointer (some p))), (101, .int .i32 (kW (536870912)).v), (102, .func (.func 92) #[.agg #[.iface 74 (.pointer (some p))]] #[]), (103, .pointer (some ⟨w.heap.size + 1, 1, none⟩)), (104, .int .i32 (q1).v), (105, .pointer (some ⟨w.heap.size + 1, 1, none⟩)), (106, .int .i32 (q1).v), (107, .int .i32 (mulqW (q1) (q1)).v), (108, .func (.func 92) #[.agg #[.iface 74 (.pointer (some p))]] #[]), (109, .pointer (some ⟨w.heap.size + 1, 2, none⟩)), (110, .int .i32 (q2).v), (111, .pointer (some ⟨w.heap.size + 1, 2, none⟩)), (112, .int .i32 (q2).v), (113, .int .i32 (mulqW (q2) (q2)).v), (114, .slice (some ⟨γ 16, 0, none⟩) 2 2), (115, .int .i32 (lessW (kW (536870912)) [mulqW (q1) (q1), mulqW (q2) (q2)]).v)] (by kernel_rfl) ?_
              clear hBz hnez hOz HS0 hU0
              simp only [Reg.of, List.foldl_cons, List.foldl_nil, List.setIfInBounds_toArray, List.set_cons_zero, List.set_cons_succ]
              generalize γ 16 = b16 at *
              have HC6 := hide (HC5.out.trans hSz.chg (D := []) (by simp; try omega))
              have y6_0 : wz6.cell? ⟨w.heap.size, 0, none⟩ = some (.iface 74 (.pointer (some p))) := hSz.at_ 0 _ _ (by rw [hCL]; rfl)
              have y6_1 : wz6.cell? ⟨w.heap.size + 1, 0, none⟩ = some (.int .i32 (q0).v) := hSz.at_ 1 _ _ (by rw [hCL]; rfl)
              have y6_2 : wz6.cell? ⟨w.heap.size + 1, 1, none⟩ = some (.int .i32 (q1).v) := hSz.at_ 2 _ _ (by rw [hCL]; rfl)
              have y6_3 : wz6.cell? ⟨w.heap.size + 1, 2, none⟩ = some (.int .i32 (q2).v) := hSz.at_ 3 _ _ (by rw [hCL]; rfl)
              have y6_4 : wz6.cell? ⟨w.heap.size + 1, 3, none⟩ = some (.int .i32 (q3).v) := hSz.at_ 4 _ _ (by rw [hCL]; rfl)
              have y6_5 : wz6.cell? ⟨w.heap.size + 1 + 1, 0, none⟩ = some (.int .i32 (f0).v) := hSz.at_ 5 _ _ (by rw [hCL]; rfl)
              have y6_6 : wz6.cell? ⟨w.heap.size + 1 + 1, 1, none⟩ = some (.int .i32 (f1).v) := hSz.at_ 6 _ _ (by rw [hCL]; rfl)
              have y6_7 : wz6.cell? ⟨w.heap.size + 1 + 1, 2, none⟩ = some (.int .i32 (f2).v) := hSz.at_ 7 _ _ (by rw [hCL]; rfl)
              clear hSz hCL hlt0 CL y5_0 y5_1 y5_2 y5_3 y5_4 y5_5 y5_6 y5_7 HC5 mo5_0
              have mo6_0 := ob0
              clear ob0
              clear nb16 nf16
              go_wp2_with fail
              obtain ⟨CL, hCL⟩ : ∃ l : List (Addr × Value), l = [(⟨w.heap.size, 0, none⟩, .iface 74 (.pointer (some p))), (⟨w.heap.size + 1, 0, none⟩, .int .i32 (q0).v), (⟨w.heap.size + 1, 1, none⟩, .int .i32 (q1).v), (⟨w.heap.size + 1, 2, none⟩, .int .i32 (q2).v), (⟨w.heap.size + 1, 3, none⟩, .int .i32 (q3).v), (⟨w.heap.size + 1 + 1, 0, none⟩, .int .i32 (f0).v), (⟨w.heap.size + 1 + 1, 1, none⟩, .int .i32 (f1).v), (⟨w.heap.size + 1 + 1, 2, none⟩, .int .i32 (f2).v)] := ⟨_, rfl⟩
              have HS0 : Sd wz6 [w.heap.size + 1 + 1 + 1] CL wz6.drew := ⟨(Chg.refl wz6 _).drew, by rw [hCL]; simp only [List.forall_mem_cons]; exact ⟨y6_0, y6_1, y6_2, y6_3, y6_4, y6_5, y6_6, y6_7, by simp⟩⟩
              have hU0 : ∀ p ∈ CL, p.1.block ∈ ([w.heap.size, w.heap.size + 1, w.heap.size + 1 + 1] : List Nat) := by rw [hCL]; simp only [List.forall_mem_cons]; exact ⟨by simp, by simp, by simp, by simp, by simp, by simp, by simp, by simp, by simp⟩
              have hlt0 : ∀ u ∈ ([w.heap.size, w.heap.size + 1, w.heap.size + 1 + 1] : List Nat), u < wz6.heap.size := by simp only [List.forall_mem_cons]; exact ⟨World.block_lt_of_cell? _ _ y6_0, World.block_lt_of_cell? _ _ y6_1, World.block_lt_of_cell? _ _ y6_5, by simp⟩
              refine Reg.wp_region (Reg.of 56 _ _ [.agg #[.iface 74 (.pointer (some p))], .agg #[.iface 74 (.pointer (some p))], .func (.func 92) #[.agg #[.iface 74 (.pointer (some p))]] #[], .int .i32 (bx).v, .int .i32 (lessW (kW (536870912)) [mulqW (q2) (q2), mulqW (q3) (q3)]).v, .int .i32 (mulqW (bx) (lessW (kW (536870912)) [mulqW (q2) (q2), mulqW (q3) (q3)])).v, .func (.func 92) #[.agg #[.iface 74 (.pointer (some p))]] #[], .int .i32 (bz).v, .int .i32 (lessW (mulqW (q1) (q3)) [mulqW (q0) (q2)]).v, .int .i32 (mulqW (bz) (lessW (mulqW (q1) (q3)) [mulqW (q0) (q2)])).v, undef, .int .i32 (moreW (mulqW (bx) (lessW (kW (536870912)) [mulqW (q2) (q2), mulqW (q3) (q3)])) [mulqW (bz) (lessW (mulqW (q1) (q3)) [mulqW (q0) (q2)])]).v, .agg #[.iface 74 (.pointer (some p))], .pointer (some ⟨w.heap.size + 1 + 1, 0, none⟩), .int .i32 (f0).v, .int .i32 (downW (f0) (1)).v, undef, .int .i32 (lessW (moreW (mulqW (bx) (lessW (kW (536870912)) [mulqW (q2) (q2), mulqW (q3) (q3)])) [mulqW (bz) (lessW (mulqW (q1) (q3)) [mulqW (q0) (q2)])]) [downW (f0) (1)]).v, .agg #[.iface 74 (.pointer (some p))], .agg #[.iface 74 (.pointer (some p))], .func (.func 92) #[.agg #[.iface 74 (.pointer (some p))]] #[], .int .i32 (bx).v, .int .i32 (lessW (mulqW (q1) (q2)) [mulqW (q0) (q3)]).v, .int .i32 (mulqW (bx) (lessW (mulqW (q1) (q2)) [mulqW (q0) (q3)])).v, .func (.func 92) #[.agg #[.iface 74 (.pointer (some p))]] #[], .int .i32 (bz).v, .int .i32 (moreW (mulqW (q0) (q1)) [mulqW (q2) (q3)]).v, .int .i32 (mulqW (bz) (moreW (mulqW (q0) (q1)) [mulqW (q2) (q3)])).v, undef, .int .i32 (moreW (mulqW (bx) (lessW (mulqW (q1) (q2)) [mulqW (q0) (q3)])) [mulqW (bz) (moreW (mulqW (q0) (q1)) [mulqW (q2) (q3)])]).v, .agg #[.iface 74 (.pointer (some p))], .pointer (some ⟨w.heap.size + 1 + 1, 1, none⟩), .int .i32 (f1).v, .int .i32 (downW (f1) (1)).v, undef, .int .i32 (lessW (moreW (mulqW (bx) (lessW (mulqW (q1) (q2)) [mulqW (q0) (q3)])) [mulqW (bz) (moreW (mulqW (q0) (q1)) [mulqW (q2) (q3)])]) [downW (f1) (1)]).v, .agg #[.iface 74 (.pointer (some p))], .agg #[.iface 74 (.pointer (some p))], .func (.func 92) #[.agg #[.iface 74 (.pointer (some p))]] #[], .int .i32 (bx).v, .int .i32 (moreW (mulqW (q0) (q2)) [mulqW (q1) (q3)]).v, .int .i32 (mulqW (bx) (moreW (mulqW (q0) (q2)) [mulqW (q1) (q3)])).v, .func (.func 92) #[.agg #[.iface 74 (.pointer (some p))]] #[], .int .i32 (bz).v, .int .i32 (lessW (kW (536870912)) [mulqW (q1) (q1), mulqW (q2) (q2)]).v, .int .i32 (mulqW (bz) (lessW (kW (536870912)) [mulqW (q1) (q1), mulqW (q2) (q2)])).v, undef, .int .i32 (moreW (mulqW (bx) (moreW (mulqW (q0) (q2)) [mulqW (q1) (q3)])) [mulqW (bz) (lessW (kW (536870912)) [mulqW (q1) (q1), mulqW (q2) (q2)])]).v, .agg #[.iface 74 (.pointer (some p))], .pointer (some ⟨w.heap.size + 1 + 1, 2, none⟩), .int .i32 (f2).v, .int .i32 (downW (f2) (1)).v, undef, .int .i32 (lessW (moreW (mulqW (bx) (moreW (mulqW (q0) (q2)) [mulqW (q1) (q3)])) [mulqW (bz) (lessW (kW (536870912)) [mulqW (q1) (q1), mulqW (q2) (q2)])]) [downW (f2) (1)]).v, .agg #[.int .i32 (lessW (moreW (mulqW (bx) (lessW (kW (536870912)) [mulqW (q2) (q2), mulqW (q3) (q3)])) [mulqW (bz) (lessW (mulqW (q1) (q3)) [mulqW (q0) (q2)])]) [downW (f0) (1)]).v, .int .i32 (lessW (moreW (mulqW (bx) (lessW (mulqW (q1) (q2)) [mulqW (q0) (q3)])) [mulqW (bz) (moreW (mulqW (q0) (q1)) [mulqW (q2) (q3)])]) [downW (f1) (1)]).v, .int .i32 (lessW (moreW (mulqW (bx) (moreW (mulqW (q0) (q2)) [mulqW (q1) (q3)])) [mulqW (bz) (lessW (kW (536870912)) [mulqW (q1) (q1), mulqW (q2) (q2)])]) [downW (f2) (1)]).v], undef] [fun _ => undef, fun _ => undef, fun _ => undef, fun _ => undef, fun _ => undef, fun _ => undef, fun _ => undef, fun _ => undef, fun _ => undef, fun _ => undef, fun g => .slice (some ⟨g, 0, none⟩) 1 1, fun _ => undef, fun _ => undef, fun _ => undef, fun _ => undef, fun _ => undef, fun g => .slice (some ⟨g, 0, none⟩) 1 1, fun _ => undef, fun _ => undef, fun _ => undef, fun _ => undef, fun _ => undef, fun _ => undef, fun _ => undef, fun _ => undef, fun _ => undef, fun _ => undef, fun _ => undef, fun g => .slice (some ⟨g, 0, none⟩) 1 1, fun _ => undef, fun _ => undef, fun _ => undef, fun _ => undef, fun _ => undef, fun g => .slice (some ⟨g, 0, none⟩) 1 1, fun _ => undef, fun _ => undef, fun _ => undef, fun _ => undef, fun _ => undef, fun _ => undef, fun _ => undef, fun _ => undef, fun _ => undef, fun _ => undef, fun _ => undef, fun g => .slice (some ⟨g, 0, none⟩) 1 1, fun _ => undef, fun _ => undef, fun _ => undef, fun _ => undef, fun _ => undef, fun g => .slice (some ⟨g, 0, none⟩) 1 1, fun _ => undef, fun _ => undef, fun _ => undef] [.val, .val, .val, .val, .val, .val, .val, .val, .val, .val, .new 21 [.int .i32 (mulqW (bz) (lessW (mulqW (q1) (q3)) [mulqW (q0) (q2)])).v], .val, .val, .val, .val, .val, .new 21 [.int .i32 (downW (f0) (1)).v], .val, .val, .val, .val, .val, .val, .val, .val, .val, .val, .val, .new 21 [.int .i32 (mulqW (bz) (moreW (mulqW (q0) (q1)) [mulqW (q2) (q3)])).v], .val, .val, .val, .val, .val, .new 21 [.int .i32 (downW (f1) (1)).v], .val, .val, .val, .val, .val, .val, .val, .val, .val, .val, .val, .new 21 [.int .i32 (mulqW (bz) (lessW (kW (536870912)) [mulqW (q1) (q1), mulqW (q2) (q2)])).v], .val, .val, .val, .val, .val, .new 21 [.int .i32 (downW (f2) (1)).v], .val, .val, .put 56 [.int .i32 (lessW (moreW (mulqW (bx) (lessW (kW (536870912)) [mulqW (q2) (q2), mulqW (q3) (q3)])) [mulqW (bz) (lessW (mulqW (q1) (q3)) [mulqW (q0) (q2)])]) [downW (f0) (1)]).v, .int .i32 (lessW (moreW (mulqW (bx) (lessW (mulqW (q1) (q2)) [mulqW (q0) (q3)])) [mulqW (bz) (moreW (mulqW (q0) (q1)) [mulqW (q2) (q3)])]) [downW (f1) (1)]).v, .int .i32 (lessW (moreW (mulqW (bx) (moreW (mulqW (q0) (q2)) [mulqW (q1) (q3)])) [mulqW (bz) (lessW (kW (536870912)) [mulqW (q1) (q1), mulqW (q2) (q2)])]) [downW (f2) (1)]).v]] [(22, [.int .i32 0, .int .i32 0, .int .i32 0])] [w.heap.size + 1 + 1 + 1] [] (fun _ => Sd wz6 [w.heap.size + 1 + 1 + 1] CL) (Fd wz6 [w.heap.size + 1 + 1 + 1] [w.heap.size, w.heap.size + 1, w.heap.size + 1 + 1])) (Reg.good_of _ 171 (by kernel_rfl) (by kernel_rfl)) (stands_d _ wz6 [w.heap.size + 1 + 1 + 1] [w.heap.size, w.heap.size + 1, w.heap.size + 1 + 1] CL rfl rfl rfl hU0 hlt0) (by kernel_rfl) HS0 (hold_of (by kernel_rfl) ?holdwz7) (ne_of (by kernel_rfl) ?hnewz7) (Reg.steps_of _ rfl ⟨?_, ?_, ?_, ?_, ?_, ?_, ?_, ?_, ?_, ?_, ?_, ?_, ?_, ?_, ?_, ?_, ?_, ?_, ?_, ?_, ?_, ?_, ?_, ?_, ?_, ?_, ?_, ?_, ?_, ?_, ?_, ?_, ?_, ?_, ?_, ?_, ?_, ?_, ?_, ?_, ?_, ?_, ?_, ?_, ?_, ?_, ?_, ?_, ?_, ?_, ?_, ?_, ?_, ?_, ?_, ?_, trivial⟩) ?hendwz7
              case holdwz7 =>
                intro k T c hk
                cases k with
                | zero => simp only [List.getElem?_cons_zero, Option.some.injEq, Prod.mk.injEq] at hk; obtain ⟨rfl, rfl⟩ := hk; exact ⟨mo6_0, ⟨by simp; try omega, .inl (by simp)⟩⟩
                | succ k =>
                  simp at hk
              case hnewz7 => intro i j hi hj hne; simp at hi hj; omega
              case hendwz7 =>
                intro wz7 γ hSz hBz hnez hOz
                replace hSz : Sd wz6 [w.heap.size + 1 + 1 + 1] CL wz7 := hSz
                have nb10 : Blk wz7 (γ 10) 21 [.int .i32 (mulqW (bz) (lessW (mulqW (q1) (q3)) [mulqW (q0) (q2)])).v] := (hBz 10 21 [.int .i32 (mulqW (bz) (lessW (mulqW (q1) (q3)) [mulqW (q0) (q2)])).v] (by kernel_rfl) [.int .i32 (mulqW (bz) (lessW (mulqW (q1) (q3)) [mulqW (q0) (q2)])).v] (by kernel_rfl)).1
                have nf10 : Fd wz6 [w.heap.size + 1 + 1 + 1] [w.heap.size, w.heap.size + 1, w.heap.size + 1 + 1] wz7 (γ 10) := (hBz 10 21 [.int .i32 (mulqW (bz) (lessW (mulqW (q1) (q3)) [mulqW (q0) (q2)])).v] (by kernel_rfl) [.int .i32 (mulqW (bz) (lessW (mulqW (q1) (q3)) [mulqW (q0) (q2)])).v] (by kernel_rfl)).2.1
                have nb16 : Blk wz7 (γ 16) 21 [.int .i32 (downW (f0) (1)).v] := (hBz 16 21 [.int .i32 (downW (f0) (1)).v] (by kernel_rfl) [.int .i32 (downW (f0) (1)).v] (by kernel_rfl)).1
                have nf16 : Fd wz6 [w.heap.size + 1 + 1 + 1] [w.heap.size, w.heap.size + 1, w.heap.size + 1 + 1] wz7 (γ 16) := (hBz 16 21 [.int .i32 (downW (f0) (1)).v] (by kernel_rfl) [.int .i32 (downW (f0) (1)).v] (by kernel_rfl)).2.1
                have nb28 : Blk wz7 (γ 28) 21 [.int .i32 (mulqW (bz) (moreW (mulqW (q0) (q1)) [mulqW (q2) (q3)])).v] := (hBz 28 21 [.int .i32 (mulqW (bz) (moreW (mulqW (q0) (q1)) [mulqW (q2) (q3)])).v] (by kernel_rfl) [.int .i32 (mulqW (bz) (moreW (mulqW (q0) (q1)) [mulqW (q2) (q3)])).v] (by kernel_rfl)).1
                have nf28 : Fd wz6 [w.heap.size + 1 + 1 + 1] [w.heap.size, w.heap.size + 1, w.heap.size + 1 + 1] wz7 (γ 28) := (hBz 28 21 [.int .i32 (mulqW (bz) (moreW (mulqW (q0) (q1)) [mulqW (q2) (q3)])).v] (by kernel_rfl) [.int .i32 (mulqW (bz) (moreW (mulqW (q0) (q1)) [mulqW (q2) (q3)])).v] (by kernel_rfl)).2.1
                have nb34 : Blk wz7 (γ 34) 21 [.int .i32 (downW (f1) (1)).v] := (hBz 34 21 [.int .i32 (downW (f1) (1)).v] (by kernel_rfl) [.int .i32 (downW (f1) (1)).v] (by kernel_rfl)).1
                have nf34 : Fd wz6 [w.heap.size + 1 + 1 + 1] [w.heap.size, w.heap.size + 1, w.heap.size + 1 + 1] wz7 (γ 34) := (hBz 34 21 [.int .i32 (downW (f1) (1)).v] (by kernel_rfl) [.int .i32 (downW (f1) (1)).v] (by kernel_rfl)).2.1
                have nb46 : Blk wz7 (γ 46) 21 [.int .i32 (mulqW (bz) (lessW (kW (536870912)) [mulqW (q1) (q1), mulqW (q2) (q2)])).v] := (hBz 46 21 [.int .i32 (mulqW (bz) (lessW (kW (536870912)) [mulqW (q1) (q1), mulqW (q2) (q2)])).v] (by kernel_rfl) [.int .i32 (mulqW (bz) (lessW (kW (536870912)) [mulqW (q1) (q1), mulqW (q2) (q2)])).v] (by kernel_rfl)).1
                have nf46 : Fd wz6 [w.heap.size + 1 + 1 + 1] [w.heap.size, w.heap.size + 1, w.heap.size + 1 + 1] wz7 (γ 46) := (hBz 46 21 [.int .i32 (mulqW (bz) (lessW (kW (536870912)) [mulqW (q1) (q1), mulqW (q2) (q2)])).v] (by kernel_rfl) [.int .i32 (mulqW (bz) (lessW (kW (536870912)) [mulqW (q1) (q1), mulqW (q2) (q2)])).v] (by kernel_rfl)).2.1
                have nb52 : Blk wz7 (γ 52) 21 [.int .i32 (downW (f2) (1)).v] := (hBz 52 21 [.int .i32 (downW (f2) (1)).v] (by kernel_rfl) [.int .i32 (downW (f2) (1)).v] (by kernel_rfl)).1
                have nf52 : Fd wz6 [w.heap.size + 1 + 1 + 1] [w.heap.size, w.heap.size + 1, w.heap.size + 1 + 1] wz7 (γ 52) := (hBz 52 21 [.int .i32 (downW (f2) (1)).v] (by kernel_rfl) [.int .i32 (downW (f2) (1)).v] (by kernel_rfl)).2.1
                have ob0 : Blk wz7 (w.heap.size + 1 + 1 + 1) 22 [.int .i32 (lessW (moreW (mulqW (bx) (lessW (kW (536870912)) [mulqW (q2) (q2), mulqW (q3) (q3)])) [mulqW (bz) (lessW (mulqW (q1) (q3)) [mulqW (q0) (q2)])]) [downW (f0) (1)]).v, .int .i32 (lessW (moreW (mulqW (bx) (lessW (mulqW (q1) (q2)) [mulqW (q0) (q3)])) [mulqW (bz) (moreW (mulqW (q0) (q1)) [mulqW (q2) (q3)])]) [downW (f1) (1)]).v, .int .i32 (lessW (moreW (mulqW (bx) (moreW (mulqW (q0) (q2)) [mulqW (q1) (q3)])) [mulqW (bz) (lessW (kW (536870912)) [mulqW (q1) (q1), mulqW (q2) (q2)])]) [downW (f2) (1)]).v] := by have h := (hBz 56 22 [.int .i32 0, .int .i32 0, .int .i32 0] (by kernel_rfl) [.int .i32 (lessW (moreW (mulqW (bx) (lessW (kW (536870912)) [mulqW (q2) (q2), mulqW (q3) (q3)])) [mulqW (bz) (lessW (mulqW (q1) (q3)) [mulqW (q0) (q2)])]) [downW (f0) (1)]).v, .int .i32 (lessW (moreW (mulqW (bx) (lessW (mulqW (q1) (q2)) [mulqW (q0) (q3)])) [mulqW (bz) (moreW (mulqW (q0) (q1)) [mulqW (q2) (q3)])]) [downW (f1) (1)]).v, .int .i32 (lessW (moreW (mulqW (bx) (moreW (mulqW (q0) (q2)) [mulqW (q1) (q3)])) [mulqW (bz) (lessW (kW (536870912)) [mulqW (q1) (q1), mulqW (q2) (q2)])]) [downW (f2) (1)]).v] (by kernel_rfl)).1; rw [hOz 56 (Nat.le_trans (Nat.le_of_eq (by kernel_rfl : _ = 56)) (by decide : 56 ≤ 56))] at h; exact h
                refine end_of [(116, .agg #[.iface 74 (.pointer (some p))]), (117, .agg #[.iface 74 (.pointer (some p))]), (118, .func (.func 92) #[.agg #[.iface 74 (.pointer (some p))]] #[]), (119, .int .i32 (bx).v), (120, .int .i32 (lessW (kW (536870912)) [mulqW (q2) (q2), mulqW (q3) (q3)]).v), (121, .int .i32 (mulqW (bx) (lessW (kW (536870912)) [mulqW (q2) (q2), mulqW (q3) (q3)])).v), (122, .func (.func 92) #[.agg #[.iface 74 (.pointer (some p))]] #[]), (123, .int .i32 (bz).v), (124, .int .i32 (lessW (mulqW (q1) (q3)) [mulqW (q0) (q2)]).v), (125, .int .i32 (mulqW (bz) (lessW (mulqW (q1) (q3)) [mulqW (q0) (q2)])).v), (126, .slice (some ⟨γ 10, 0, none⟩) 1 1), (127, .int .i32 (moreW (mulqW (bx) (lessW (kW (536870912)) [mulqW (q2) (q2), mulqW (q3) (q3)])) [mulqW (bz) (lessW (mulqW (q1) (q3)) [mulqW (q0) (q2)])]).v), (128, .agg #[.iface 74 (.pointer (some p))]), (129, .pointer (some ⟨w.heap.size + 1 + 1, 0, none⟩)), (130, .int .i32 (f0).v), (131, .int .i32 (downW (f0) (1)).v), (132, .slice (some ⟨γ 16, 0, none⟩) 1 1), (133, .int .i32 (lessW (moreW (mulqW (bx) (lessW (kW (536870912)) [mulqW (q2) (q2), mulqW (q3) (q3)])) [mulqW (bz) (lessW (mulqW (q1) (q3)) [mulqW (q0) (q2)])]) [downW (f0) (1)]).v), (134, .agg #[.iface 74 (.pointer (some p))]), (135, .agg #[.iface 74 (.pointer (some p))]), (136, .func (.func 92) #[.agg #[.iface 74 (.pointer (some p))]] #[]), (137, .int .i32 (bx).v), (138, .int .i32 (lessW (mulqW (q1) (q2)) [mulqW (q0) (q3)]).v), (139, .int .i32 (mulqW (bx) (lessW (mulqW (q1) (q2)) [mulqW (q0) (q3)])).v), (140, .func (.func 92) #[.agg #[.iface 74 (.pointer (some p))]] #[]), (141, .int .i32 (bz).v), (142, .int .i32 (moreW (mulqW (q0) (q1)) [mulqW (q2) (q3)]).v), (143, .int .i32 (mulqW (bz) (moreW (mulqW (q0) (q1)) [mulqW (q2) (q3)])).v), (144, .slice (some ⟨γ 28, 0, none⟩) 1 1), (145, .int .i32 (moreW (mulqW (bx) (lessW (mulqW (q1) (q2)) [mulqW (q0) (q3)])) [mulqW (bz) (moreW (mulqW (q0) (q1)) [mulqW (q2) (q3)])]).v), (146, .agg #[.iface 74 (.pointer (some p))]), (147, .pointer (some ⟨w.heap.size + 1 + 1, 1, none⟩)), (148, .int .i32 (f1).v), (149, .int .i32 (downW (f1) (1)).v), (150, .slice (some ⟨γ 34, 0, none⟩) 1 1), (151, .int .i32 (lessW (moreW (mulqW (bx) (lessW (mulqW (q1) (q2)) [mulqW (q0) (q3)])) [mulqW (bz) (moreW (mulqW (q0) (q1)) [mulqW (q2) (q3)])]) [downW (f1) (1)]).v), (152, .agg #[.iface 74 (.pointer (some p))]), (153, .agg #[.iface 74 (.pointer (some p))]), (154, .func (.func 92) #[.agg #[.iface 74 (.pointer (some p))]] #[]), (155, .int .i32 (bx).v), (156, .int .i32 (moreW (mulqW (q0) (q2)) [mulqW (q1) (q3)]).v), (157, .int .i32 (mulqW (bx) (moreW (mulqW (q0) (q2)) [mulqW (q1) (q3)])).v), (158, .func (.func 92) #[.agg #[.iface 74 (.pointer (some p))]] #[]), (159, .int .i32 (bz).v), (160, .int .i32 (lessW (kW (536870912)) [mulqW (q1) (q1), mulqW (q2) (q2)]).v), (161, .int .i32 (mulqW (bz) (lessW (kW (536870912)) [mulqW (q1) (q1), mulqW (q2) (q2)])).v), (162, .slice (some ⟨γ 46, 0, none⟩) 1 1), (163, .int .i32 (moreW (mulqW (bx) (moreW (mulqW (q0) (q2)) [mulqW (q1) (q3)])) [mulqW (bz) (lessW (kW (536870912)) [mulqW (q1) (q1), mulqW (q2) (q2)])]).v), (164, .agg #[.iface 74 (.pointer (some p))]), (165, .pointer (some ⟨w.heap.size + 1 + 1, 2, none⟩)), (166, .int .i32 (f2).v), (167, .int .i32 (downW (f2) (1)).v), (168, .slice (some ⟨γ 52, 0, none⟩) 1 1), (169, .int .i32 (lessW (moreW (mulqW (bx) (moreW (mulqW (q0) (q2)) [mulqW (q1) (q3)])) [mulqW (bz) (lessW (kW (536870912)) [mulqW (q1) (q1), mulqW (q2) (q2)])]) [downW (f2) (1)]).v), (170, .agg #[.int .i32 (lessW (moreW (mulqW (bx) (lessW (kW (536870912)) [mulqW (q2) (q2), mulqW (q3) (q3)])) [mulqW (bz) (lessW (mulqW (q1) (q3)) [mulqW (q0) (q2)])]) [downW (f0) (1)]).v, .int .i32 (lessW (moreW (mulqW (bx) (lessW (mulqW (q1) (q2)) [mulqW (q0) (q3)])) [mulqW (bz) (moreW (mulqW (q0) (q1)) [mulqW (q2) (q3)])]) [downW (f1) (1)]).v, .int .i32 (lessW (moreW (mulqW (bx) (moreW (mulqW (q0) (q2)) [mulqW (q1) (q3)])) [mulqW (bz) (lessW (kW (536870912)) [mulqW (q1) (q1), mulqW (q2) (q2)])]) [downW (f2) (1)]).v])] (by kernel_rfl) ?_
                clear hBz hnez hOz HS0 hU0
                simp only [Reg.of, List.foldl_cons, List.foldl_nil, List.setIfInBounds_toArray, List.set_cons_zero, List.set_cons_succ]
                generalize γ 10 = b10 at *
                generalize γ 16 = b16 at *
                generalize γ 28 = b28 at *
                generalize γ 34 = b34 at *
                generalize γ 46 = b46 at *
                generalize γ 52 = b52 at *
                have HC7 := hide (HC6.out.trans hSz.chg (D := []) (by simp; try omega))
                have y7_0 : wz7.cell? ⟨w.heap.size, 0, none⟩ = some (.iface 74 (.pointer (some p))) := hSz.at_ 0 _ _ (by rw [hCL]; rfl)
                have y7_1 : wz7.cell? ⟨w.heap.size + 1, 0, none⟩ = some (.int .i32 (q0).v) := hSz.at_ 1 _ _ (by rw [hCL]; rfl)
                have y7_2 : wz7.cell? ⟨w.heap.size + 1, 1, none⟩ = some (.int .i32 (q1).v) := hSz.at_ 2 _ _ (by rw [hCL]; rfl)
                have y7_3 : wz7.cell? ⟨w.heap.size + 1, 2, none⟩ = some (.int .i32 (q2).v) := hSz.at_ 3 _ _ (by rw [hCL]; rfl)
                have y7_4 : wz7.cell? ⟨w.heap.size + 1, 3, none⟩ = some (.int .i32 (q3).v) := hSz.at_ 4 _ _ (by rw [hCL]; rfl)
                have y7_5 : wz7.cell? ⟨w.heap.size + 1 + 1, 0, none⟩ = some (.int .i32 (f0).v) := hSz.at_ 5 _ _ (by rw [hCL]; rfl)
                have y7_6 : wz7.cell? ⟨w.heap.size + 1 + 1, 1, none⟩ = some (.int .i32 (f1).v) := hSz.at_ 6 _ _ (by rw [hCL]; rfl)
                have y7_7 : wz7.cell? ⟨w.heap.size + 1 + 1, 2, none⟩ = some (.int .i32 (f2).v) := hSz.at_ 7 _ _ (by rw [hCL]; rfl)
                clear hSz hCL hlt0 CL y6_0 y6_1 y6_2 y6_3 y6_4 y6_5 y6_6 y6_7 HC6 mo6_0
                have mo7_0 := ob0
                clear ob0
                clear nb10 nf10
                clear nb16 nf16
                clear nb28 nf28
                clear nb34 nf34
                clear nb46 nf46
                clear nb52 nf52
                have q0' := mo7_0.cell' (i := 0) rfl
                have q1' := mo7_0.cell' (i := 1) rfl
                have q2' := mo7_0.cell' (i := 2) rfl
                go_wp2
                refine bodyPost_ret (v := .agg #[.int .i32 (errorsW q0 q1 q2 q3 bx bz f0 f1 f2).a.v, .int .i32 (errorsW q0 q1 q2 q3 bx bz f0 f1 f2).b.v, .int .i32 (errorsW q0 q1 q2 q3 bx bz f0 f1 f2).c.v]) (by simp [results, Tryz.f109, go_sem, q0', q1', q2']; exact ⟨rfl, rfl, rfl⟩) rfl ⟨rfl, HC7.out⟩
              · intro a wu γ nph K hp hK
                obtain ⟨e5a, e5b⟩ := hp.old_ 5 (.pointer (some ⟨w.heap.size, 0, none⟩))
                have hS : Sd wz6 [w.heap.size + 1 + 1 + 1] CL wu := hp.S
                have c0 := hS.at_ 0 ⟨w.heap.size, 0, none⟩ (.iface 74 (.pointer (some p))) (by rw [hCL]; rfl)
                have hk := hK.pure (.agg #[.iface 74 (.pointer (some p))]) hp.S
                clear hp hK hS
                go_simp
                exact hk
              · intro a wu γ nph K hp hK
                obtain ⟨e5a, e5b⟩ := hp.old_ 5 (.pointer (some ⟨w.heap.size, 0, none⟩))
                have hS : Sd wz6 [w.heap.size + 1 + 1 + 1] CL wu := hp.S
                have c0 := hS.at_ 0 ⟨w.heap.size, 0, none⟩ (.iface 74 (.pointer (some p))) (by rw [hCL]; rfl)
                have hk := hK.pure (.agg #[.iface 74 (.pointer (some p))]) hp.S
                clear hp hK hS
                go_simp
                exact hk
              · intro a wu γ nph K hp hK
                obtain ⟨e11a, e11b⟩ := hp.old_ 11 (.func (.func 92) #[.agg #[.iface 74 (.pointer (some p))]] #[])
                have hk := hK.pure (.func (.func 92) #[.agg #[.iface 74 (.pointer (some p))]] #[]) hp.S
                clear hp hK
                go_simp
                exact hk
              · intro a wu γ nph K hp hK
                obtain ⟨e2a, e2b⟩ := hp.old_ 2 (.int .i32 (bx).v)
                have hk := hK.pure (.int .i32 (bx).v) hp.S
                clear hp hK
                go_simp
                exact hk
              · intro a wu γ nph K hp hK
                obtain ⟨e12a, e12b⟩ := hp.old_ 12 (.int .i32 (lessW (kW (536870912)) [mulqW (q2) (q2), mulqW (q3) (q3)]).v)
                have hk := hK.pure (.int .i32 (lessW (kW (536870912)) [mulqW (q2) (q2), mulqW (q3) (q3)]).v) hp.S
                clear hp hK
                go_simp
                exact hk
              · intro a wu γ nph K hp hK
                obtain ⟨e118a, e118b⟩ := hp.dep_ 118 2 (.func (.func 92) #[.agg #[.iface 74 (.pointer (some p))]] #[])
                obtain ⟨e119a, e119b⟩ := hp.dep_ 119 3 (.int .i32 (bx).v)
                obtain ⟨e120a, e120b⟩ := hp.dep_ 120 4 (.int .i32 (lessW (kW (536870912)) [mulqW (q2) (q2), mulqW (q3) (q3)]).v)
                have hS : Sd wz6 [w.heap.size + 1 + 1 + 1] CL wu := hp.S
                have hk := hK.call (.int .i32 (mulqW (bx) (lessW (kW (536870912)) [mulqW (q2) (q2), mulqW (q3) (q3)])).v)
                clear hp hK
                go_simp
                refine (w_mulq p _ _ _).mono ?_
                rintro e w7 ⟨rfl, hcX⟩
                exact hk _ (hS.call hcX) (Reg.keep_call _ rfl hcX)
              · intro a wu γ nph K hp hK
                obtain ⟨e11a, e11b⟩ := hp.old_ 11 (.func (.func 92) #[.agg #[.iface 74 (.pointer (some p))]] #[])
                have hk := hK.pure (.func (.func 92) #[.agg #[.iface 74 (.pointer (some p))]] #[]) hp.S
                clear hp hK
                go_simp
                exact hk
              · intro a wu γ nph K hp hK
                obtain ⟨e3a, e3b⟩ := hp.old_ 3 (.int .i32 (bz).v)
                have hk := hK.pure (.int .i32 (bz).v) hp.S
                clear hp hK
                go_simp
                exact hk
              · intro a wu γ nph K hp hK
                obtain ⟨e13a, e13b⟩ := hp.old_ 13 (.int .i32 (lessW (mulqW (q1) (q3)) [mulqW (q0) (q2)]).v)
                have hk := hK.pure (.int .i32 (lessW (mulqW (q1) (q3)) [mulqW (q0) (q2)]).v) hp.S
                clear hp hK
                go_simp
                exact hk
              · intro a wu γ nph K hp hK
                obtain ⟨e122a, e122b⟩ := hp.dep_ 122 6 (.func (.func 92) #[.agg #[.iface 74 (.pointer (some p))]] #[])
                obtain ⟨e123a, e123b⟩ := hp.dep_ 123 7 (.int .i32 (bz).v)
                obtain ⟨e124a, e124b⟩ := hp.dep_ 124 8 (.int .i32 (lessW (mulqW (q1) (q3)) [mulqW (q0) (q2)]).v)
                have hS : Sd wz6 [w.heap.size + 1 + 1 + 1] CL wu := hp.S
                have hk := hK.call (.int .i32 (mulqW (bz) (lessW (mulqW (q1) (q3)) [mulqW (q0) (q2)])).v)
                clear hp hK
                go_simp
                refine (w_mulq p _ _ _).mono ?_
                rintro e w7 ⟨rfl, hcX⟩
                exact hk _ (hS.call hcX) (Reg.keep_call _ rfl hcX)
              · intro a wu γ nph K hp hK
                obtain ⟨e125a, e125b⟩ := hp.dep_ 125 9 (.int .i32 (mulqW (bz) (lessW (mulqW (q1) (q3)) [mulqW (q0) (q2)])).v)
                have hk := hK.new 21 [.int .i32 (mulqW (bz) (lessW (mulqW (q1) (q3)) [mulqW (q0) (q2)])).v] (fun g => .slice (some ⟨g, 0, none⟩) 1 1)
                clear hp hK
                go_simp
                exact hk
              · intro a wu γ nph K hp hK
                obtain ⟨e117a, e117b⟩ := hp.dep_ 117 1 (.agg #[.iface 74 (.pointer (some p))])
                obtain ⟨e121a, e121b⟩ := hp.dep_ 121 5 (.int .i32 (mulqW (bx) (lessW (kW (536870912)) [mulqW (q2) (q2), mulqW (q3) (q3)])).v)
                obtain ⟨e126a, e126b⟩ := hp.dep_ 126 10 (.slice (some ⟨γ 10, 0, none⟩) 1 1)
                have hS : Sd wz6 [w.heap.size + 1 + 1 + 1] CL wu := hp.S
                have nb10 : Blk wu (γ 10) 21 [.int .i32 (mulqW (bz) (lessW (mulqW (q1) (q3)) [mulqW (q0) (q2)])).v] := (hp.blk_ 10 (T := 21) (c := [.int .i32 (mulqW (bz) (lessW (mulqW (q1) (q3)) [mulqW (q0) (q2)])).v])).1
                have hk := hK.call (.int .i32 (moreW (mulqW (bx) (lessW (kW (536870912)) [mulqW (q2) (q2), mulqW (q3) (q3)])) [mulqW (bz) (lessW (mulqW (q1) (q3)) [mulqW (q0) (q2)])]).v)
                clear hp hK
                go_simp
                refine (wmore_calls p _ [mulqW (bz) (lessW (mulqW (q1) (q3)) [mulqW (q0) (q2)])] _ _ (Sl.blk' (show Blk wu (γ 10) 21 (wds [mulqW (bz) (lessW (mulqW (q1) (q3)) [mulqW (q0) (q2)])]) from nb10) rfl (Nat.le_refl _)) (by simp)).mono ?_
                rintro e w7 ⟨rfl, hcX⟩
                exact hk _ (hS.call hcX) (Reg.keep_call _ rfl hcX)
              · intro a wu γ nph K hp hK
                obtain ⟨e5a, e5b⟩ := hp.old_ 5 (.pointer (some ⟨w.heap.size, 0, none⟩))
                have hS : Sd wz6 [w.heap.size + 1 + 1 + 1] CL wu := hp.S
                have c0 := hS.at_ 0 ⟨w.heap.size, 0, none⟩ (.iface 74 (.pointer (some p))) (by rw [hCL]; rfl)
                have hk := hK.pure (.agg #[.iface 74 (.pointer (some p))]) hp.S
                clear hp hK hS
                go_simp
                exact hk
              · intro a wu γ nph K hp hK
                obtain ⟨e9a, e9b⟩ := hp.old_ 9 (.pointer (some ⟨w.heap.size + 1 + 1, 0, none⟩))
                have hk := hK.pure (.pointer (some ⟨w.heap.size + 1 + 1, 0, none⟩)) hp.S
                clear hp hK
                go_simp
                exact hk
              · intro a wu γ nph K hp hK
                obtain ⟨e129a, e129b⟩ := hp.dep_ 129 13 (.pointer (some ⟨w.heap.size + 1 + 1, 0, none⟩))
                have hS : Sd wz6 [w.heap.size + 1 + 1 + 1] CL wu := hp.S
                have c5 := hS.at_ 5 ⟨w.heap.size + 1 + 1, 0, none⟩ (.int .i32 (f0).v) (by rw [hCL]; rfl)
                have hk := hK.pure (.int .i32 (f0).v) hp.S
                clear hp hK hS
                go_simp
                exact hk
              · intro a wu γ nph K hp hK
                obtain ⟨e128a, e128b⟩ := hp.dep_ 128 12 (.agg #[.iface 74 (.pointer (some p))])
                obtain ⟨e130a, e130b⟩ := hp.dep_ 130 14 (.int .i32 (f0).v)
                have hS : Sd wz6 [w.heap.size + 1 + 1 + 1] CL wu := hp.S
                have hk := hK.call (.int .i32 (downW (f0) (1)).v)
                clear hp hK
                go_simp
                refine (w_down p _ _ _ (by decide)).mono ?_
                rintro e w7 ⟨rfl, hcX⟩
                exact hk _ (hS.call hcX) (Reg.keep_call _ rfl hcX)
              · intro a wu γ nph K hp hK
                obtain ⟨e131a, e131b⟩ := hp.dep_ 131 15 (.int .i32 (downW (f0) (1)).v)
                have hk := hK.new 21 [.int .i32 (downW (f0) (1)).v] (fun g => .slice (some ⟨g, 0, none⟩) 1 1)
                clear hp hK
                go_simp
                exact hk
              · intro a wu γ nph K hp hK
                obtain ⟨e116a, e116b⟩ := hp.dep_ 116 0 (.agg #[.iface 74 (.pointer (some p))])
                obtain ⟨e127a, e127b⟩ := hp.dep_ 127 11 (.int .i32 (moreW (mulqW (bx) (lessW (kW (536870912)) [mulqW (q2) (q2), mulqW (q3) (q3)])) [mulqW (bz) (lessW (mulqW (q1) (q3)) [mulqW (q0) (q2)])]).v)
                obtain ⟨e132a, e132b⟩ := hp.dep_ 132 16 (.slice (some ⟨γ 16, 0, none⟩) 1 1)
                have hS : Sd wz6 [w.heap.size + 1 + 1 + 1] CL wu := hp.S
                have nb16 : Blk wu (γ 16) 21 [.int .i32 (downW (f0) (1)).v] := (hp.blk_ 16 (T := 21) (c := [.int .i32 (downW (f0) (1)).v])).1
                have hk := hK.call (.int .i32 (lessW (moreW (mulqW (bx) (lessW (kW (536870912)) [mulqW (q2) (q2), mulqW (q3) (q3)])) [mulqW (bz) (lessW (mulqW (q1) (q3)) [mulqW (q0) (q2)])]) [downW (f0) (1)]).v)
                clear hp hK
                go_simp
                refine (wless_calls p _ [downW (f0) (1)] _ _ (Sl.blk' (show Blk wu (γ 16) 21 (wds [downW (f0) (1)]) from nb16) rfl (Nat.le_refl _)) (by simp)).mono ?_
                rintro e w7 ⟨rfl, hcX⟩
                exact hk _ (hS.call hcX) (Reg.keep_call _ rfl hcX)
              · intro a wu γ nph K hp hK
                obtain ⟨e5a, e5b⟩ := hp.old_ 5 (.pointer (some ⟨w.heap.size, 0, none⟩))
                have hS : Sd wz6 [w.heap.size + 1 + 1 + 1] CL wu := hp.S
                have c0 := hS.at_ 0 ⟨w.heap.size, 0, none⟩ (.iface 74 (.pointer (some p))) (by rw [hCL]; rfl)
                have hk := hK.pure (.agg #[.iface 74 (.pointer (some p))]) hp.S
                clear hp hK hS
                go_simp
                exact hk
              · intro a wu γ nph K hp hK
                obtain ⟨e5a, e5b⟩ := hp.old_ 5 (.pointer (some ⟨w.heap.size, 0, none⟩))
                have hS : Sd wz6 [w.heap.size + 1 + 1 + 1] CL wu := hp.S
                have c0 := hS.at_ 0 ⟨w.heap.size, 0, none⟩ (.iface 74 (.pointer (some p))) (by rw [hCL]; rfl)
                have hk := hK.pure (.agg #[.iface 74 (.pointer (some p))]) hp.S
                clear hp hK hS
                go_simp
                exact hk
              · intro a wu γ nph K hp hK
                obtain ⟨e11a, e11b⟩ := hp.old_ 11 (.func (.func 92) #[.agg #[.iface 74 (.pointer (some p))]] #[])
                have hk := hK.pure (.func (.func 92) #[.agg #[.iface 74 (.pointer (some p))]] #[]) hp.S
                clear hp hK
                go_simp
                exact hk
              · intro a wu γ nph K hp hK
                obtain ⟨e2a, e2b⟩ := hp.old_ 2 (.int .i32 (bx).v)
                have hk := hK.pure (.int .i32 (bx).v) hp.S
                clear hp hK
                go_simp
                exact hk
              · intro a wu γ nph K hp hK
                obtain ⟨e14a, e14b⟩ := hp.old_ 14 (.int .i32 (lessW (mulqW (q1) (q2)) [mulqW (q0) (q3)]).v)
                have hk := hK.pure (.int .i32 (lessW (mulqW (q1) (q2)) [mulqW (q0) (q3)]).v) hp.S
                clear hp hK
                go_simp
                exact hk
              · intro a wu γ nph K hp hK
                obtain ⟨e136a, e136b⟩ := hp.dep_ 136 20 (.func (.func 92) #[.agg #[.iface 74 (.pointer (some p))]] #[])
                obtain ⟨e137a, e137b⟩ := hp.dep_ 137 21 (.int .i32 (bx).v)
                obtain ⟨e138a, e138b⟩ := hp.dep_ 138 22 (.int .i32 (lessW (mulqW (q1) (q2)) [mulqW (q0) (q3)]).v)
                have hS : Sd wz6 [w.heap.size + 1 + 1 + 1] CL wu := hp.S
                have hk := hK.call (.int .i32 (mulqW (bx) (lessW (mulqW (q1) (q2)) [mulqW (q0) (q3)])).v)
                clear hp hK
                go_simp
                refine (w_mulq p _ _ _).mono ?_
                rintro e w7 ⟨rfl, hcX⟩
                exact hk _ (hS.call hcX) (Reg.keep_call _ rfl hcX)
              · intro a wu γ nph K hp hK
                obtain ⟨e11a, e11b⟩ := hp.old_ 11 (.func (.func 92) #[.agg #[.iface 74 (.pointer (some p))]] #[])
                have hk := hK.pure (.func (.func 92) #[.agg #[.iface 74 (.pointer (some p))]] #[]) hp.S
                clear hp hK
                go_simp
                exact hk
              · intro a wu γ nph K hp hK
                obtain ⟨e3a, e3b⟩ := hp.old_ 3 (.int .i32 (bz).v)
                have hk := hK.pure (.int .i32 (bz).v) hp.S
                clear hp hK
                go_simp
                exact hk
              · intro a wu γ nph K hp hK
                obtain ⟨e15a, e15b⟩ := hp.old_ 15 (.int .i32 (moreW (mulqW (q0) (q1)) [mulqW (q2) (q3)]).v)
                have hk := hK.pure (.int .i32 (moreW (mulqW (q0) (q1)) [mulqW (q2) (q3)]).v) hp.S
                clear hp hK
                go_simp
                exact hk
              · intro a wu γ nph K hp hK
                obtain ⟨e140a, e140b⟩ := hp.dep_ 140 24 (.func (.func 92) #[.agg #[.iface 74 (.pointer (some p))]] #[])
                obtain ⟨e141a, e141b⟩ := hp.dep_ 141 25 (.int .i32 (bz).v)
                obtain ⟨e142a, e142b⟩ := hp.dep_ 142 26 (.int .i32 (moreW (mulqW (q0) (q1)) [mulqW (q2) (q3)]).v)
                have hS : Sd wz6 [w.heap.size + 1 + 1 + 1] CL wu := hp.S
                have hk := hK.call (.int .i32 (mulqW (bz) (moreW (mulqW (q0) (q1)) [mulqW (q2) (q3)])).v)
                clear hp hK
                go_simp
                refine (w_mulq p _ _ _).mono ?_
                rintro e w7 ⟨rfl, hcX⟩
                exact hk _ (hS.call hcX) (Reg.keep_call _ rfl hcX)
              · intro a wu γ nph K hp hK
                obtain ⟨e143a, e143b⟩ := hp.dep_ 143 27 (.int .i32 (mulqW (bz) (moreW (mulqW (q0) (q1)) [mulqW (q2) (q3)])).v)
                have hk := hK.new 21 [.int .i32 (mulqW (bz) (moreW (mulqW (q0) (q1)) [mulqW (q2) (q3)])).v] (fun g => .slice (some ⟨g, 0, none⟩) 1 1)
                clear hp hK
                go_simp
                exact hk
              · intro a wu γ nph K hp hK
                obtain ⟨e135a, e135b⟩ := hp.dep_ 135 19 (.agg #[.iface 74 (.pointer (some p))])
                obtain ⟨e139a, e139b⟩ := hp.dep_ 139 23 (.int .i32 (mulqW (bx) (lessW (mulqW (q1) (q2)) [mulqW (q0) (q3)])).v)
                obtain ⟨e144a, e144b⟩ := hp.dep_ 144 28 (.slice (some ⟨γ 28, 0, none⟩) 1 1)
                have hS : Sd wz6 [w.heap.size + 1 + 1 + 1] CL wu := hp.S
                have nb28 : Blk wu (γ 28) 21 [.int .i32 (mulqW (bz) (moreW (mulqW (q0) (q1)) [mulqW (q2) (q3)])).v] := (hp.blk_ 28 (T := 21) (c := [.int .i32 (mulqW (bz) (moreW (mulqW (q0) (q1)) [mulqW (q2) (q3)])).v])).1
                have hk := hK.call (.int .i32 (moreW (mulqW (bx) (lessW (mulqW (q1) (q2)) [mulqW (q0) (q3)])) [mulqW (bz) (moreW (mulqW (q0) (q1)) [mulqW (q2) (q3)])]).v)
                clear hp hK
                go_simp
                refine (wmore_calls p _ [mulqW (bz) (moreW (mulqW (q0) (q1)) [mulqW (q2) (q3)])] _ _ (Sl.blk' (show Blk wu (γ 28) 21 (wds [mulqW (bz) (moreW (mulqW (q0) (q1)) [mulqW (q2) (q3)])]) from nb28) rfl (Nat.le_refl _)) (by simp)).mono ?_
                rintro e w7 ⟨rfl, hcX⟩
                exact hk _ (hS.call hcX) (Reg.keep_call _ rfl hcX)
              · intro a wu γ nph K hp hK
                obtain ⟨e5a, e5b⟩ := hp.old_ 5 (.pointer (some ⟨w.heap.size, 0, none⟩))
                have hS : Sd wz6 [w.heap.size + 1 + 1 + 1] CL wu := hp.S
                have c0 := hS.at_ 0 ⟨w.heap.size, 0, none⟩ (.iface 74 (.pointer (some p))) (by rw [hCL]; rfl)
                have hk := hK.pure (.agg #[.iface 74 (.pointer (some p))]) hp.S
                clear hp hK hS
                go_simp
                exact hk
              · intro a wu γ nph K hp hK
                obtain ⟨e9a, e9b⟩ := hp.old_ 9 (.pointer (some ⟨w.heap.size + 1 + 1, 0, none⟩))
                have hk := hK.pure (.pointer (some ⟨w.heap.size + 1 + 1, 1, none⟩)) hp.S
                clear hp hK
                go_simp
                exact hk
              · intro a wu γ nph K hp hK
                obtain ⟨e147a, e147b⟩ := hp.dep_ 147 31 (.pointer (some ⟨w.heap.size + 1 + 1, 1, none⟩))
                have hS : Sd wz6 [w.heap.size + 1 + 1 + 1] CL wu := hp.S
                have c6 := hS.at_ 6 ⟨w.heap.size + 1 + 1, 1, none⟩ (.int .i32 (f1).v) (by rw [hCL]; rfl)
                have hk := hK.pure (.int .i32 (f1).v) hp.S
                clear hp hK hS
                go_simp
                exact hk
              · intro a wu γ nph K hp hK
                obtain ⟨e146a, e146b⟩ := hp.dep_ 146 30 (.agg #[.iface 74 (.pointer (some p))])
                obtain ⟨e148a, e148b⟩ := hp.dep_ 148 32 (.int .i32 (f1).v)
                have hS : Sd wz6 [w.heap.size + 1 + 1 + 1] CL wu := hp.S
                have hk := hK.call (.int .i32 (downW (f1) (1)).v)
                clear hp hK
                go_simp
                refine (w_down p _ _ _ (by decide)).mono ?_
                rintro e w7 ⟨rfl, hcX⟩
                exact hk _ (hS.call hcX) (Reg.keep_call _ rfl hcX)
              · intro a wu γ nph K hp hK
                obtain ⟨e149a, e149b⟩ := hp.dep_ 149 33 (.int .i32 (downW (f1) (1)).v)
                have hk := hK.new 21 [.int .i32 (downW (f1) (1)).v] (fun g => .slice (some ⟨g, 0, none⟩) 1 1)
                clear hp hK
                go_simp
                exact hk
              · intro a wu γ nph K hp hK
                obtain ⟨e134a, e134b⟩ := hp.dep_ 134 18 (.agg #[.iface 74 (.pointer (some p))])
                obtain ⟨e145a, e145b⟩ := hp.dep_ 145 29 (.int .i32 (moreW (mulqW (bx) (lessW (mulqW (q1) (q2)) [mulqW (q0) (q3)])) [mulqW (bz) (moreW (mulqW (q0) (q1)) [mulqW (q2) (q3)])]).v)
                obtain ⟨e150a, e150b⟩ := hp.dep_ 150 34 (.slice (some ⟨γ 34, 0, none⟩) 1 1)
                have hS : Sd wz6 [w.heap.size + 1 + 1 + 1] CL wu := hp.S
                have nb34 : Blk wu (γ 34) 21 [.int .i32 (downW (f1) (1)).v] := (hp.blk_ 34 (T := 21) (c := [.int .i32 (downW (f1) (1)).v])).1
                have hk := hK.call (.int .i32 (lessW (moreW (mulqW (bx) (lessW (mulqW (q1) (q2)) [mulqW (q0) (q3)])) [mulqW (bz) (moreW (mulqW (q0) (q1)) [mulqW (q2) (q3)])]) [downW (f1) (1)]).v)
                clear hp hK
                go_simp
                refine (wless_calls p _ [downW (f1) (1)] _ _ (Sl.blk' (show Blk wu (γ 34) 21 (wds [downW (f1) (1)]) from nb34) rfl (Nat.le_refl _)) (by simp)).mono ?_
                rintro e w7 ⟨rfl, hcX⟩
                exact hk _ (hS.call hcX) (Reg.keep_call _ rfl hcX)
              · intro a wu γ nph K hp hK
                obtain ⟨e5a, e5b⟩ := hp.old_ 5 (.pointer (some ⟨w.heap.size, 0, none⟩))
                have hS : Sd wz6 [w.heap.size + 1 + 1 + 1] CL wu := hp.S
                have c0 := hS.at_ 0 ⟨w.heap.size, 0, none⟩ (.iface 74 (.pointer (some p))) (by rw [hCL]; rfl)
                have hk := hK.pure (.agg #[.iface 74 (.pointer (some p))]) hp.S
                clear hp hK hS
                go_simp
                exact hk
              · intro a wu γ nph K hp hK
                obtain ⟨e5a, e5b⟩ := hp.old_ 5 (.pointer (some ⟨w.heap.size, 0, none⟩))
                have hS : Sd wz6 [w.heap.size + 1 + 1 + 1] CL wu := hp.S
                have c0 := hS.at_ 0 ⟨w.heap.size, 0, none⟩ (.iface 74 (.pointer (some p))) (by rw [hCL]; rfl)
                have hk := hK.pure (.agg #[.iface 74 (.pointer (some p))]) hp.S
                clear hp hK hS
                go_simp
                exact hk
              · intro a wu γ nph K hp hK
                obtain ⟨e11a, e11b⟩ := hp.old_ 11 (.func (.func 92) #[.agg #[.iface 74 (.pointer (some p))]] #[])
                have hk := hK.pure (.func (.func 92) #[.agg #[.iface 74 (.pointer (some p))]] #[]) hp.S
                clear hp hK
                go_simp
                exact hk
              · intro a wu γ nph K hp hK
                obtain ⟨e2a, e2b⟩ := hp.old_ 2 (.int .i32 (bx).v)
                have hk := hK.pure (.int .i32 (bx).v) hp.S
                clear hp hK
                go_simp
                exact hk
              · intro a wu γ nph K hp hK
                obtain ⟨e16a, e16b⟩ := hp.old_ 16 (.int .i32 (moreW (mulqW (q0) (q2)) [mulqW (q1) (q3)]).v)
                have hk := hK.pure (.int .i32 (moreW (mulqW (q0) (q2)) [mulqW (q1) (q3)]).v) hp.S
                clear hp hK
                go_simp
                exact hk
              · intro a wu γ nph K hp hK
                obtain ⟨e154a, e154b⟩ := hp.dep_ 154 38 (.func (.func 92) #[.agg #[.iface 74 (.pointer (some p))]] #[])
                obtain ⟨e155a, e155b⟩ := hp.dep_ 155 39 (.int .i32 (bx).v)
                obtain ⟨e156a, e156b⟩ := hp.dep_ 156 40 (.int .i32 (moreW (mulqW (q0) (q2)) [mulqW (q1) (q3)]).v)
                have hS : Sd wz6 [w.heap.size + 1 + 1 + 1] CL wu := hp.S
                have hk := hK.call (.int .i32 (mulqW (bx) (moreW (mulqW (q0) (q2)) [mulqW (q1) (q3)])).v)
                clear hp hK
                go_simp
                refine (w_mulq p _ _ _).mono ?_
                rintro e w7 ⟨rfl, hcX⟩
                exact hk _ (hS.call hcX) (Reg.keep_call _ rfl hcX)
              · intro a wu γ nph K hp hK
                obtain ⟨e11a, e11b⟩ := hp.old_ 11 (.func (.func 92) #[.agg #[.iface 74 (.pointer (some p))]] #[])
                have hk := hK.pure (.func (.func 92) #[.agg #[.iface 74 (.pointer (some p))]] #[]) hp.S
                clear hp hK
                go_simp
                exact hk
              · intro a wu γ nph K hp hK
                obtain ⟨e3a, e3b⟩ := hp.old_ 3 (.int .i32 (bz).v)
                have hk := hK.pure (.int .i32 (bz).v) hp.S
                clear hp hK
                go_simp
                exact hk
              · intro a wu γ nph K hp hK
                obtain ⟨e17a, e17b⟩ := hp.old_ 17 (.int .i32 (lessW (kW (536870912)) [mulqW (q1) (q1), mulqW (q2) (q2)]).v)
                have hk := hK.pure (.int .i32 (lessW (kW (536870912)) [mulqW (q1) (q1), mulqW (q2) (q2)]).v) hp.S
                clear hp hK
                go_simp
                exact hk
              · intro a wu γ nph K hp hK
                obtain ⟨e158a, e158b⟩ := hp.dep_ 158 42 (.func (.func 92) #[.agg #[.iface 74 (.pointer (some p))]] #[])
                obtain ⟨e159a, e159b⟩ := hp.dep_ 159 43 (.int .i32 (bz).v)
                obtain ⟨e160a, e160b⟩ := hp.dep_ 160 44 (.int .i32 (lessW (kW (536870912)) [mulqW (q1) (q1), mulqW (q2) (q2)]).v)
                have hS : Sd wz6 [w.heap.size + 1 + 1 + 1] CL wu := hp.S
                have hk := hK.call (.int .i32 (mulqW (bz) (lessW (kW (536870912)) [mulqW (q1) (q1), mulqW (q2) (q2)])).v)
                clear hp hK
                go_simp
                refine (w_mulq p _ _ _).mono ?_
                rintro e w7 ⟨rfl, hcX⟩
                exact hk _ (hS.call hcX) (Reg.keep_call _ rfl hcX)
              · intro a wu γ nph K hp hK
                obtain ⟨e161a, e161b⟩ := hp.dep_ 161 45 (.int .i32 (mulqW (bz) (lessW (kW (536870912)) [mulqW (q1) (q1), mulqW (q2) (q2)])).v)
                have hk := hK.new 21 [.int .i32 (mulqW (bz) (lessW (kW (536870912)) [mulqW (q1) (q1), mulqW (q2) (q2)])).v] (fun g => .slice (some ⟨g, 0, none⟩) 1 1)
                clear hp hK
                go_simp
                exact hk
              · intro a wu γ nph K hp hK
                obtain ⟨e153a, e153b⟩ := hp.dep_ 153 37 (.agg #[.iface 74 (.pointer (some p))])
                obtain ⟨e157a, e157b⟩ := hp.dep_ 157 41 (.int .i32 (mulqW (bx) (moreW (mulqW (q0) (q2)) [mulqW (q1) (q3)])).v)
                obtain ⟨e162a, e162b⟩ := hp.dep_ 162 46 (.slice (some ⟨γ 46, 0, none⟩) 1 1)
                have hS : Sd wz6 [w.heap.size + 1 + 1 + 1] CL wu := hp.S
                have nb46 : Blk wu (γ 46) 21 [.int .i32 (mulqW (bz) (lessW (kW (536870912)) [mulqW (q1) (q1), mulqW (q2) (q2)])).v] := (hp.blk_ 46 (T := 21) (c := [.int .i32 (mulqW (bz) (lessW (kW (536870912)) [mulqW (q1) (q1), mulqW (q2) (q2)])).v])).1
                have hk := hK.call (.int .i32 (moreW (mulqW (bx) (moreW (mulqW (q0) (q2)) [mulqW (q1) (q3)])) [mulqW (bz) (lessW (kW (536870912)) [mulqW (q1) (q1), mulqW (q2) (q2)])]).v)
                clear hp hK
                go_simp
                refine (wmore_calls p _ [mulqW (bz) (lessW (kW (536870912)) [mulqW (q1) (q1), mulqW (q2) (q2)])] _ _ (Sl.blk' (show Blk wu (γ 46) 21 (wds [mulqW (bz) (lessW (kW (536870912)) [mulqW (q1) (q1), mulqW (q2) (q2)])]) from nb46) rfl (Nat.le_refl _)) (by simp)).mono ?_
                rintro e w7 ⟨rfl, hcX⟩
                exact hk _ (hS.call hcX) (Reg.keep_call _ rfl hcX)
              · intro a wu γ nph K hp hK
                obtain ⟨e5a, e5b⟩ := hp.old_ 5 (.pointer (some ⟨w.heap.size, 0, none⟩))
                have hS : Sd wz6 [w.heap.size + 1 + 1 + 1] CL wu := hp.S
                have c0 := hS.at_ 0 ⟨w.heap.size, 0, none⟩ (.iface 74 (.pointer (some p))) (by rw [hCL]; rfl)
                have hk := hK.pure (.agg #[.iface 74 (.pointer (some p))]) hp.S
                clear hp hK hS
                go_simp
                exact hk
              · intro a wu γ nph K hp hK
                obtain ⟨e9a, e9b⟩ := hp.old_ 9 (.pointer (some ⟨w.heap.size + 1 + 1, 0, none⟩))
                have hk := hK.pure (.pointer (some ⟨w.heap.size + 1 + 1, 2, none⟩)) hp.S
                clear hp hK
                go_simp
                exact hk
              · intro a wu γ nph K hp hK
                obtain ⟨e165a, e165b⟩ := hp.dep_ 165 49 (.pointer (some ⟨w.heap.size + 1 + 1, 2, none⟩))
                have hS : Sd wz6 [w.heap.size + 1 + 1 + 1] CL wu := hp.S
                have c7 := hS.at_ 7 ⟨w.heap.size + 1 + 1, 2, none⟩ (.int .i32 (f2).v) (by rw [hCL]; rfl)
                have hk := hK.pure (.int .i32 (f2).v) hp.S
                clear hp hK hS
                go_simp
                exact hk
              · intro a wu γ nph K hp hK
                obtain ⟨e164a, e164b⟩ := hp.dep_ 164 48 (.agg #[.iface 74 (.pointer (some p))])
                obtain ⟨e166a, e166b⟩ := hp.dep_ 166 50 (.int .i32 (f2).v)
                have hS : Sd wz6 [w.heap.size + 1 + 1 + 1] CL wu := hp.S
                have hk := hK.call (.int .i32 (downW (f2) (1)).v)
                clear hp hK
                go_simp
                refine (w_down p _ _ _ (by decide)).mono ?_
                rintro e w7 ⟨rfl, hcX⟩
                exact hk _ (hS.call hcX) (Reg.keep_call _ rfl hcX)
              · intro a wu γ nph K hp hK
                obtain ⟨e167a, e167b⟩ := hp.dep_ 167 51 (.int .i32 (downW (f2) (1)).v)
                have hk := hK.new 21 [.int .i32 (downW (f2) (1)).v] (fun g => .slice (some ⟨g, 0, none⟩) 1 1)
                clear hp hK
                go_simp
                exact hk
              · intro a wu γ nph K hp hK
                obtain ⟨e152a, e152b⟩ := hp.dep_ 152 36 (.agg #[.iface 74 (.pointer (some p))])
                obtain ⟨e163a, e163b⟩ := hp.dep_ 163 47 (.int .i32 (moreW (mulqW (bx) (moreW (mulqW (q0) (q2)) [mulqW (q1) (q3)])) [mulqW (bz) (lessW (kW (536870912)) [mulqW (q1) (q1), mulqW (q2) (q2)])]).v)
                obtain ⟨e168a, e168b⟩ := hp.dep_ 168 52 (.slice (some ⟨γ 52, 0, none⟩) 1 1)
                have hS : Sd wz6 [w.heap.size + 1 + 1 + 1] CL wu := hp.S
                have nb52 : Blk wu (γ 52) 21 [.int .i32 (downW (f2) (1)).v] := (hp.blk_ 52 (T := 21) (c := [.int .i32 (downW (f2) (1)).v])).1
                have hk := hK.call (.int .i32 (lessW (moreW (mulqW (bx) (moreW (mulqW (q0) (q2)) [mulqW (q1) (q3)])) [mulqW (bz) (lessW (kW (536870912)) [mulqW (q1) (q1), mulqW (q2) (q2)])]) [downW (f2) (1)]).v)
                clear hp hK
                go_simp
                refine (wless_calls p _ [downW (f2) (1)] _ _ (Sl.blk' (show Blk wu (γ 52) 21 (wds [downW (f2) (1)]) from nb52) rfl (Nat.le_refl _)) (by simp)).mono ?_
                rintro e w7 ⟨rfl, hcX⟩
                exact hk _ (hS.call hcX) (Reg.keep_call _ rfl hcX)
              · intro a wu γ nph K hp hK
                obtain ⟨e133a, e133b⟩ := hp.dep_ 133 17 (.int .i32 (lessW (moreW (mulqW (bx) (lessW (kW (536870912)) [mulqW (q2) (q2), mulqW (q3) (q3)])) [mulqW (bz) (lessW (mulqW (q1) (q3)) [mulqW (q0) (q2)])]) [downW (f0) (1)]).v)
                obtain ⟨e151a, e151b⟩ := hp.dep_ 151 35 (.int .i32 (lessW (moreW (mulqW (bx) (lessW (mulqW (q1) (q2)) [mulqW (q0) (q3)])) [mulqW (bz) (moreW (mulqW (q0) (q1)) [mulqW (q2) (q3)])]) [downW (f1) (1)]).v)
                obtain ⟨e169a, e169b⟩ := hp.dep_ 169 53 (.int .i32 (lessW (moreW (mulqW (bx) (moreW (mulqW (q0) (q2)) [mulqW (q1) (q3)])) [mulqW (bz) (lessW (kW (536870912)) [mulqW (q1) (q1), mulqW (q2) (q2)])]) [downW (f2) (1)]).v)
                have hk := hK.pure (.agg #[.int .i32 (lessW (moreW (mulqW (bx) (lessW (kW (536870912)) [mulqW (q2) (q2), mulqW (q3) (q3)])) [mulqW (bz) (lessW (mulqW (q1) (q3)) [mulqW (q0) (q2)])]) [downW (f0) (1)]).v, .int .i32 (lessW (moreW (mulqW (bx) (lessW (mulqW (q1) (q2)) [mulqW (q0) (q3)])) [mulqW (bz) (moreW (mulqW (q0) (q1)) [mulqW (q2) (q3)])]) [downW (f1) (1)]).v, .int .i32 (lessW (moreW (mulqW (bx) (moreW (mulqW (q0) (q2)) [mulqW (q1) (q3)])) [mulqW (bz) (lessW (kW (536870912)) [mulqW (q1) (q1), mulqW (q2) (q2)])]) [downW (f2) (1)]).v]) hp.S
                clear hp hK
                go_simp
                exact hk
              · intro a wu γ nph K hp hK
                obtain ⟨e10a, e10b⟩ := hp.old_ 10 (.pointer (some ⟨w.heap.size + 1 + 1 + 1, 0, none⟩))
                obtain ⟨e170a, e170b⟩ := hp.dep_ 170 54 (.agg #[.int .i32 (lessW (moreW (mulqW (bx) (lessW (kW (536870912)) [mulqW (q2) (q2), mulqW (q3) (q3)])) [mulqW (bz) (lessW (mulqW (q1) (q3)) [mulqW (q0) (q2)])]) [downW (f0) (1)]).v, .int .i32 (lessW (moreW (mulqW (bx) (lessW (mulqW (q1) (q2)) [mulqW (q0) (q3)])) [mulqW (bz) (moreW (mulqW (q0) (q1)) [mulqW (q2) (q3)])]) [downW (f1) (1)]).v, .int .i32 (lessW (moreW (mulqW (bx) (moreW (mulqW (q0) (q2)) [mulqW (q1) (q3)])) [mulqW (bz) (lessW (kW (536870912)) [mulqW (q1) (q1), mulqW (q2) (q2)])]) [downW (f2) (1)]).v])
                have hb := (hp.blk_ 56 (T := 22) (c := [.int .i32 0, .int .i32 0, .int .i32 0])).1
                have hk := hK.put 56 22 [.int .i32 0, .int .i32 0, .int .i32 0] [.int .i32 (lessW (moreW (mulqW (bx) (lessW (kW (536870912)) [mulqW (q2) (q2), mulqW (q3) (q3)])) [mulqW (bz) (lessW (mulqW (q1) (q3)) [mulqW (q0) (q2)])]) [downW (f0) (1)]).v, .int .i32 (lessW (moreW (mulqW (bx) (lessW (mulqW (q1) (q2)) [mulqW (q0) (q3)])) [mulqW (bz) (moreW (mulqW (q0) (q1)) [mulqW (q2) (q3)])]) [downW (f1) (1)]).v, .int .i32 (lessW (moreW (mulqW (bx) (moreW (mulqW (q0) (q2)) [mulqW (q1) (q3)])) [mulqW (bz) (lessW (kW (536870912)) [mulqW (q1) (q1), mulqW (q2) (q2)])]) [downW (f2) (1)]).v]
                have hO : γ 56 = w.heap.size + 1 + 1 + 1 := hp.old 56 (Nat.le_trans (Nat.le_of_eq (by kernel_rfl : _ = 56)) (by decide : 56 ≤ 56))
                rw [hO] at hb hk
                have z0 := hb.cell' (i := 0) rfl
                have f0 := hb.frozen 0
                have z1 := hb.cell' (i := 1) rfl
                have f1 := hb.frozen 1
                have z2 := hb.cell' (i := 2) rfl
                have f2 := hb.frozen 2
                clear hp hK
                clear hO
                go_simp
                exact hk _ (((hb.set_ 0 _).set_ 1 _).set_ 2 _) ((((Chg.refl wu _).setCell _ _ (.inl (by simp))).setCell _ _ (.inl (by simp))).setCell _ _ (.inl (by simp))) (by simp)
            · intro a wu γ nph K hp hK
              obtain ⟨e5a, e5b⟩ := hp.old_ 5 (.pointer (some ⟨w.heap.size, 0, none⟩))
              have hS : Sd wz5 [w.heap.size + 1 + 1 + 1] CL wu := hp.S
              have c0 := hS.at_ 0 ⟨w.heap.size, 0, none⟩ (.iface 74 (.pointer (some p))) (by rw [hCL]; rfl)
              have hk := hK.pure (.agg #[.iface 74 (.pointer (some p))]) hp.S
              clear hp hK hS
              go_simp
              exact hk
            · intro a wu γ nph K hp hK
              obtain ⟨e5a, e5b⟩ := hp.old_ 5 (.pointer (some ⟨w.heap.size, 0, none⟩))
              have hk := hK.pure (.pointer (some ⟨w.heap.size, 0, none⟩)) hp.S
              clear hp hK
              go_simp
              exact hk
            · intro a wu γ nph K hp hK
              obtain ⟨e99a, e99b⟩ := hp.dep_ 99 1 (.pointer (some ⟨w.heap.size, 0, none⟩))
              have hS : Sd wz5 [w.heap.size + 1 + 1 + 1] CL wu := hp.S
              have c0 := hS.at_ 0 ⟨w.heap.size, 0, none⟩ (.iface 74 (.pointer (some p))) (by rw [hCL]; rfl)
              have hk := hK.pure (.iface 74 (.pointer (some p))) hp.S
              clear hp hK hS
              go_simp
              exact hk
            · intro a wu γ nph K hp hK
              obtain ⟨e100a, e100b⟩ := hp.dep_ 100 2 (.iface 74 (.pointer (some p)))
              have hS : Sd wz5 [w.heap.size + 1 + 1 + 1] CL wu := hp.S
              have hk := hK.call (.int .i32 (kW (536870912)).v)
              clear hp hK
              go_simp
              refine (w_const p _ _ (by first | assumption | decide)).mono ?_
              rintro e w7 ⟨rfl, hcX⟩
              exact hk _ (hS.call hcX) (Reg.keep_call _ rfl hcX)
            · intro a wu γ nph K hp hK
              obtain ⟨e11a, e11b⟩ := hp.old_ 11 (.func (.func 92) #[.agg #[.iface 74 (.pointer (some p))]] #[])
              have hk := hK.pure (.func (.func 92) #[.agg #[.iface 74 (.pointer (some p))]] #[]) hp.S
              clear hp hK
              go_simp
              exact hk
            · intro a wu γ nph K hp hK
              obtain ⟨e6a, e6b⟩ := hp.old_ 6 (.pointer (some ⟨w.heap.size + 1, 0, none⟩))
              have hk := hK.pure (.pointer (some ⟨w.heap.size + 1, 1, none⟩)) hp.S
              clear hp hK
              go_simp
              exact hk
            · intro a wu γ nph K hp hK
              obtain ⟨e103a, e103b⟩ := hp.dep_ 103 5 (.pointer (some ⟨w.heap.size + 1, 1, none⟩))
              have hS : Sd wz5 [w.heap.size + 1 + 1 + 1] CL wu := hp.S
              have c2 := hS.at_ 2 ⟨w.heap.size + 1, 1, none⟩ (.int .i32 (q1).v) (by rw [hCL]; rfl)
              have hk := hK.pure (.int .i32 (q1).v) hp.S
              clear hp hK hS
              go_simp
              exact hk
            · intro a wu γ nph K hp hK
              obtain ⟨e6a, e6b⟩ := hp.old_ 6 (.pointer (some ⟨w.heap.size + 1, 0, none⟩))
              have hk := hK.pure (.pointer (some ⟨w.heap.size + 1, 1, none⟩)) hp.S
              clear hp hK
              go_simp
              exact hk
            · intro a wu γ nph K hp hK
              obtain ⟨e105a, e105b⟩ := hp.dep_ 105 7 (.pointer (some ⟨w.heap.size + 1, 1, none⟩))
              have hS : Sd wz5 [w.heap.size + 1 + 1 + 1] CL wu := hp.S
              have c2 := hS.at_ 2 ⟨w.heap.size + 1, 1, none⟩ (.int .i32 (q1).v) (by rw [hCL]; rfl)
              have hk := hK.pure (.int .i32 (q1).v) hp.S
              clear hp hK hS
              go_simp
              exact hk
            · intro a wu γ nph K hp hK
              obtain ⟨e102a, e102b⟩ := hp.dep_ 102 4 (.func (.func 92) #[.agg #[.iface 74 (.pointer (some p))]] #[])
              obtain ⟨e104a, e104b⟩ := hp.dep_ 104 6 (.int .i32 (q1).v)
              obtain ⟨e106a, e106b⟩ := hp.dep_ 106 8 (.int .i32 (q1).v)
              have hS : Sd wz5 [w.heap.size + 1 + 1 + 1] CL wu := hp.S
              have hk := hK.call (.int .i32 (mulqW (q1) (q1)).v)
              clear hp hK
              go_simp
              refine (w_mulq p _ _ _).mono ?_
              rintro e w7 ⟨rfl, hcX⟩
              exact hk _ (hS.call hcX) (Reg.keep_call _ rfl hcX)
            · intro a wu γ nph K hp hK
              obtain ⟨e11a, e11b⟩ := hp.old_ 11 (.func (.func 92) #[.agg #[.iface 74 (.pointer (some p))]] #[])
              have hk := hK.pure (.func (.func 92) #[.agg #[.iface 74 (.pointer (some p))]] #[]) hp.S
              clear hp hK
              go_simp
              exact hk
            · intro a wu γ nph K hp hK
              obtain ⟨e6a, e6b⟩ := hp.old_ 6 (.pointer (some ⟨w.heap.size + 1, 0, none⟩))
              have hk := hK.pure (.pointer (some ⟨w.heap.size + 1, 2, none⟩)) hp.S
              clear hp hK
              go_simp
              exact hk
            · intro a wu γ nph K hp hK
              obtain ⟨e109a, e109b⟩ := hp.dep_ 109 11 (.pointer (some ⟨w.heap.size + 1, 2, none⟩))
              have hS : Sd wz5 [w.heap.size + 1 + 1 + 1] CL wu := hp.S
              have c3 := hS.at_ 3 ⟨w.heap.size + 1, 2, none⟩ (.int .i32 (q2).v) (by rw [hCL]; rfl)
              have hk := hK.pure (.int .i32 (q2).v) hp.S
              clear hp hK hS
              go_simp
              exact hk
            · intro a wu γ nph K hp hK
              obtain ⟨e6a, e6b⟩ := hp.old_ 6 (.pointer (some ⟨w.heap.size + 1, 0, none⟩))
              have hk := hK.pure (.pointer (some ⟨w.heap.size + 1, 2, none⟩)) hp.S
              clear hp hK
              go_simp
              exact hk
            · intro a wu γ nph K hp hK
              obtain ⟨e111a, e111b⟩ := hp.dep_ 111 13 (.pointer (some ⟨w.heap.size + 1, 2, none⟩))
              have hS : Sd wz5 [w.heap.size + 1 + 1 + 1] CL wu := hp.S
              have c3 := hS.at_ 3 ⟨w.heap.size + 1, 2, none⟩ (.int .i32 (q2).v) (by rw [hCL]; rfl)
              have hk := hK.pure (.int .i32 (q2).v) hp.S
              clear hp hK hS
              go_simp
              exact hk
            · intro a wu γ nph K hp hK
              obtain ⟨e108a, e108b⟩ := hp.dep_ 108 10 (.func (.func 92) #[.agg #[.iface 74 (.pointer (some p))]] #[])
              obtain ⟨e110a, e110b⟩ := hp.dep_ 110 12 (.int .i32 (q2).v)
              obtain ⟨e112a, e112b⟩ := hp.dep_ 112 14 (.int .i32 (q2).v)
              have hS : Sd wz5 [w.heap.size + 1 + 1 + 1] CL wu := hp.S
              have hk := hK.call (.int .i32 (mulqW (q2) (q2)).v)
              clear hp hK
              go_simp
              refine (w_mulq p _ _ _).mono ?_
              rintro e w7 ⟨rfl, hcX⟩
              exact hk _ (hS.call hcX) (Reg.keep_call _ rfl hcX)
            · intro a wu γ nph K hp hK
              obtain ⟨e107a, e107b⟩ := hp.dep_ 107 9 (.int .i32 (mulqW (q1) (q1)).v)
              obtain ⟨e113a, e113b⟩ := hp.dep_ 113 15 (.int .i32 (mulqW (q2) (q2)).v)
              have hk := hK.new 21 [.int .i32 (mulqW (q1) (q1)).v, .int .i32 (mulqW (q2) (q2)).v] (fun g => .slice (some ⟨g, 0, none⟩) 2 2)
              clear hp hK
              go_simp
              exact hk
            · intro a wu γ nph K hp hK
              obtain ⟨e98a, e98b⟩ := hp.dep_ 98 0 (.agg #[.iface 74 (.pointer (some p))])
              obtain ⟨e101a, e101b⟩ := hp.dep_ 101 3 (.int .i32 (kW (536870912)).v)
              obtain ⟨e114a, e114b⟩ := hp.dep_ 114 16 (.slice (some ⟨γ 16, 0, none⟩) 2 2)
              have hS : Sd wz5 [w.heap.size + 1 + 1 + 1] CL wu := hp.S
              have nb16 : Blk wu (γ 16) 21 [.int .i32 (mulqW (q1) (q1)).v, .int .i32 (mulqW (q2) (q2)).v] := (hp.blk_ 16 (T := 21) (c := [.int .i32 (mulqW (q1) (q1)).v, .int .i32 (mulqW (q2) (q2)).v])).1
              have hk := hK.call (.int .i32 (lessW (kW (536870912)) [mulqW (q1) (q1), mulqW (q2) (q2)]).v)
              clear hp hK
              go_simp
              refine (wless_calls p _ [mulqW (q1) (q1), mulqW (q2) (q2)] _ _ (Sl.blk' (show Blk wu (γ 16) 21 (wds [mulqW (q1) (q1), mulqW (q2) (q2)]) from nb16) rfl (Nat.le_refl _)) (by simp)).mono ?_
              rintro e w7 ⟨rfl, hcX⟩
              exact hk _ (hS.call hcX) (Reg.keep_call _ rfl hcX)
            · intro a wu γ nph K hp hK
              obtain ⟨e115a, e115b⟩ := hp.dep_ 115 17 (.int .i32 (lessW (kW (536870912)) [mulqW (q1) (q1), mulqW (q2) (q2)]).v)
              have hk := hK.pure (.int .i32 (lessW (kW (536870912)) [mulqW (q1) (q1), mulqW (q2) (q2)]).v) hp.S
              clear hp hK
              go_simp
              exact hk
          · intro a wu γ nph K hp hK
            obtain ⟨e5a, e5b⟩ := hp.old_ 5 (.pointer (some ⟨w.heap.size, 0, none⟩))
            have hS : Sd wz4 [w.heap.size + 1 + 1 + 1] CL wu := hp.S
            have c0 := hS.at_ 0 ⟨w.heap.size, 0, none⟩ (.iface 74 (.pointer (some p))) (by rw [hCL]; rfl)
            have hk := hK.pure (.agg #[.iface 74 (.pointer (some p))]) hp.S
            clear hp hK hS
            go_simp
            exact hk
          · intro a wu γ nph K hp hK
            obtain ⟨e11a, e11b⟩ := hp.old_ 11 (.func (.func 92) #[.agg #[.iface 74 (.pointer (some p))]] #[])
            have hk := hK.pure (.func (.func 92) #[.agg #[.iface 74 (.pointer (some p))]] #[]) hp.S
            clear hp hK
            go_simp
            exact hk
          · intro a wu γ nph K hp hK
            obtain ⟨e6a, e6b⟩ := hp.old_ 6 (.pointer (some ⟨w.heap.size + 1, 0, none⟩))
            have hk := hK.pure (.pointer (some ⟨w.heap.size + 1, 0, none⟩)) hp.S
            clear hp hK
            go_simp
            exact hk
          · intro a wu γ nph K hp hK
            obtain ⟨e85a, e85b⟩ := hp.dep_ 85 2 (.pointer (some ⟨w.heap.size + 1, 0, none⟩))
            have hS : Sd wz4 [w.heap.size + 1 + 1 + 1] CL wu := hp.S
            have c1 := hS.at_ 1 ⟨w.heap.size + 1, 0, none⟩ (.int .i32 (q0).v) (by rw [hCL]; rfl)
            have hk := hK.pure (.int .i32 (q0).v) hp.S
            clear hp hK hS
            go_simp
            exact hk
          · intro a wu γ nph K hp hK
            obtain ⟨e6a, e6b⟩ := hp.old_ 6 (.pointer (some ⟨w.heap.size + 1, 0, none⟩))
            have hk := hK.pure (.pointer (some ⟨w.heap.size + 1, 2, none⟩)) hp.S
            clear hp hK
            go_simp
            exact hk
          · intro a wu γ nph K hp hK
            obtain ⟨e87a, e87b⟩ := hp.dep_ 87 4 (.pointer (some ⟨w.heap.size + 1, 2, none⟩))
            have hS : Sd wz4 [w.heap.size + 1 + 1 + 1] CL wu := hp.S
            have c3 := hS.at_ 3 ⟨w.heap.size + 1, 2, none⟩ (.int .i32 (q2).v) (by rw [hCL]; rfl)
            have hk := hK.pure (.int .i32 (q2).v) hp.S
            clear hp hK hS
            go_simp
            exact hk
          · intro a wu γ nph K hp hK
            obtain ⟨e84a, e84b⟩ := hp.dep_ 84 1 (.func (.func 92) #[.agg #[.iface 74 (.pointer (some p))]] #[])
            obtain ⟨e86a, e86b⟩ := hp.dep_ 86 3 (.int .i32 (q0).v)
            obtain ⟨e88a, e88b⟩ := hp.dep_ 88 5 (.int .i32 (q2).v)
            have hS : Sd wz4 [w.heap.size + 1 + 1 + 1] CL wu := hp.S
            have hk := hK.call (.int .i32 (mulqW (q0) (q2)).v)
            clear hp hK
            go_simp
            refine (w_mulq p _ _ _).mono ?_
            rintro e w7 ⟨rfl, hcX⟩
            exact hk _ (hS.call hcX) (Reg.keep_call _ rfl hcX)
          · intro a wu γ nph K hp hK
            obtain ⟨e11a, e11b⟩ := hp.old_ 11 (.func (.func 92) #[.agg #[.iface 74 (.pointer (some p))]] #[])
            have hk := hK.pure (.func (.func 92) #[.agg #[.iface 74 (.pointer (some p))]] #[]) hp.S
            clear hp hK
            go_simp
            exact hk
          · intro a wu γ nph K hp hK
            obtain ⟨e6a, e6b⟩ := hp.old_ 6 (.pointer (some ⟨w.heap.size + 1, 0, none⟩))
            have hk := hK.pure (.pointer (some ⟨w.heap.size + 1, 1, none⟩)) hp.S
            clear hp hK
            go_simp
            exact hk
          · intro a wu γ nph K hp hK
            obtain ⟨e91a, e91b⟩ := hp.dep_ 91 8 (.pointer (some ⟨w.heap.size + 1, 1, none⟩))
            have hS : Sd wz4 [w.heap.size + 1 + 1 + 1] CL wu := hp.S
            have c2 := hS.at_ 2 ⟨w.heap.size + 1, 1, none⟩ (.int .i32 (q1).v) (by rw [hCL]; rfl)
            have hk := hK.pure (.int .i32 (q1).v) hp.S
            clear hp hK hS
            go_simp
            exact hk
          · intro a wu γ nph K hp hK
            obtain ⟨e6a, e6b⟩ := hp.old_ 6 (.pointer (some ⟨w.heap.size + 1, 0, none⟩))
            have hk := hK.pure (.pointer (some ⟨w.heap.size + 1, 3, none⟩)) hp.S
            clear hp hK
            go_simp
            exact hk
          · intro a wu γ nph K hp hK
            obtain ⟨e93a, e93b⟩ := hp.dep_ 93 10 (.pointer (some ⟨w.heap.size + 1, 3, none⟩))
            have hS : Sd wz4 [w.heap.size + 1 + 1 + 1] CL wu := hp.S
            have c4 := hS.at_ 4 ⟨w.heap.size + 1, 3, none⟩ (.int .i32 (q3).v) (by rw [hCL]; rfl)
            have hk := hK.pure (.int .i32 (q3).v) hp.S
            clear hp hK hS
            go_simp
            exact hk
          · intro a wu γ nph K hp hK
            obtain ⟨e90a, e90b⟩ := hp.dep_ 90 7 (.func (.func 92) #[.agg #[.iface 74 (.pointer (some p))]] #[])
            obtain ⟨e92a, e92b⟩ := hp.dep_ 92 9 (.int .i32 (q1).v)
            obtain ⟨e94a, e94b⟩ := hp.dep_ 94 11 (.int .i32 (q3).v)
            have hS : Sd wz4 [w.heap.size + 1 + 1 + 1] CL wu := hp.S
            have hk := hK.call (.int .i32 (mulqW (q1) (q3)).v)
            clear hp hK
            go_simp
            refine (w_mulq p _ _ _).mono ?_
            rintro e w7 ⟨rfl, hcX⟩
            exact hk _ (hS.call hcX) (Reg.keep_call _ rfl hcX)
          · intro a wu γ nph K hp hK
            obtain ⟨e95a, e95b⟩ := hp.dep_ 95 12 (.int .i32 (mulqW (q1) (q3)).v)
            have hk := hK.new 21 [.int .i32 (mulqW (q1) (q3)).v] (fun g => .slice (some ⟨g, 0, none⟩) 1 1)
            clear hp hK
            go_simp
            exact hk
          · intro a wu γ nph K hp hK
            obtain ⟨e83a, e83b⟩ := hp.dep_ 83 0 (.agg #[.iface 74 (.pointer (some p))])
            obtain ⟨e89a, e89b⟩ := hp.dep_ 89 6 (.int .i32 (mulqW (q0) (q2)).v)
            obtain ⟨e96a, e96b⟩ := hp.dep_ 96 13 (.slice (some ⟨γ 13, 0, none⟩) 1 1)
            have hS : Sd wz4 [w.heap.size + 1 + 1 + 1] CL wu := hp.S
            have nb13 : Blk wu (γ 13) 21 [.int .i32 (mulqW (q1) (q3)).v] := (hp.blk_ 13 (T := 21) (c := [.int .i32 (mulqW (q1) (q3)).v])).1
            have hk := hK.call (.int .i32 (moreW (mulqW (q0) (q2)) [mulqW (q1) (q3)]).v)
            clear hp hK
            go_simp
            refine (wmore_calls p _ [mulqW (q1) (q3)] _ _ (Sl.blk' (show Blk wu (γ 13) 21 (wds [mulqW (q1) (q3)]) from nb13) rfl (Nat.le_refl _)) (by simp)).mono ?_
            rintro e w7 ⟨rfl, hcX⟩
            exact hk _ (hS.call hcX) (Reg.keep_call _ rfl hcX)
          · intro a wu γ nph K hp hK
            obtain ⟨e97a, e97b⟩ := hp.dep_ 97 14 (.int .i32 (moreW (mulqW (q0) (q2)) [mulqW (q1) (q3)]).v)
            have hk := hK.pure (.int .i32 (moreW (mulqW (q0) (q2)) [mulqW (q1) (q3)]).v) hp.S
            clear hp hK
            go_simp
            exact hk
        · intro a wu γ nph K hp hK
          obtain ⟨e5a, e5b⟩ := hp.old_ 5 (.pointer (some ⟨w.heap.size, 0, none⟩))
          have hS : Sd wz3 [w.heap.size + 1 + 1 + 1] CL wu := hp.S
          have c0 := hS.at_ 0 ⟨w.heap.size, 0, none⟩ (.iface 74 (.pointer (some p))) (by rw [hCL]; rfl)
          have hk := hK.pure (.agg #[.iface 74 (.pointer (some p))]) hp.S
          clear hp hK hS
          go_simp
          exact hk
        · intro a wu γ nph K hp hK
          obtain ⟨e11a, e11b⟩ := hp.old_ 11 (.func (.func 92) #[.agg #[.iface 74 (.pointer (some p))]] #[])
          have hk := hK.pure (.func (.func 92) #[.agg #[.iface 74 (.pointer (some p))]] #[]) hp.S
          clear hp hK
          go_simp
          exact hk
        · intro a wu γ nph K hp hK
          obtain ⟨e6a, e6b⟩ := hp.old_ 6 (.pointer (some ⟨w.heap.size + 1, 0, none⟩))
          have hk := hK.pure (.pointer (some ⟨w.heap.size + 1, 0, none⟩)) hp.S
          clear hp hK
          go_simp
          exact hk
        · intro a wu γ nph K hp hK
          obtain ⟨e70a, e70b⟩ := hp.dep_ 70 2 (.pointer (some ⟨w.heap.size + 1, 0, none⟩))
          have hS : Sd wz3 [w.heap.size + 1 + 1 + 1] CL wu := hp.S
          have c1 := hS.at_ 1 ⟨w.heap.size + 1, 0, none⟩ (.int .i32 (q0).v) (by rw [hCL]; rfl)
          have hk := hK.pure (.int .i32 (q0).v) hp.S
          clear hp hK hS
          go_simp
          exact hk
        · intro a wu γ nph K hp hK
          obtain ⟨e6a, e6b⟩ := hp.old_ 6 (.pointer (some ⟨w.heap.size + 1, 0, none⟩))
          have hk := hK.pure (.pointer (some ⟨w.heap.size + 1, 1, none⟩)) hp.S
          clear hp hK
          go_simp
          exact hk
        · intro a wu γ nph K hp hK
          obtain ⟨e72a, e72b⟩ := hp.dep_ 72 4 (.pointer (some ⟨w.heap.size + 1, 1, none⟩))
          have hS : Sd wz3 [w.heap.size + 1 + 1 + 1] CL wu := hp.S
          have c2 := hS.at_ 2 ⟨w.heap.size + 1, 1, none⟩ (.int .i32 (q1).v) (by rw [hCL]; rfl)
          have hk := hK.pure (.int .i32 (q1).v) hp.S
          clear hp hK hS
          go_simp
          exact hk
        · intro a wu γ nph K hp hK
          obtain ⟨e69a, e69b⟩ := hp.dep_ 69 1 (.func (.func 92) #[.agg #[.iface 74 (.pointer (some p))]] #[])
          obtain ⟨e71a, e71b⟩ := hp.dep_ 71 3 (.int .i32 (q0).v)
          obtain ⟨e73a, e73b⟩ := hp.dep_ 73 5 (.int .i32 (q1).v)
          have hS : Sd wz3 [w.heap.size + 1 + 1 + 1] CL wu := hp.S
          have hk := hK.call (.int .i32 (mulqW (q0) (q1)).v)
          clear hp hK
          go_simp
          refine (w_mulq p _ _ _).mono ?_
          rintro e w7 ⟨rfl, hcX⟩
          exact hk _ (hS.call hcX) (Reg.keep_call _ rfl hcX)
        · intro a wu γ nph K hp hK
          obtain ⟨e11a, e11b⟩ := hp.old_ 11 (.func (.func 92) #[.agg #[.iface 74 (.pointer (some p))]] #[])
          have hk := hK.pure (.func (.func 92) #[.agg #[.iface 74 (.pointer (some p))]] #[]) hp.S
          clear hp hK
          go_simp
          exact hk
        · intro a wu γ nph K hp hK
          obtain ⟨e6a, e6b⟩ := hp.old_ 6 (.pointer (some ⟨w.heap.size + 1, 0, none⟩))
          have hk := hK.pure (.pointer (some ⟨w.heap.size + 1, 2, none⟩)) hp.S
          clear hp hK
          go_simp
          exact hk
        · intro a wu γ nph K hp hK
          obtain ⟨e76a, e76b⟩ := hp.dep_ 76 8 (.pointer (some ⟨w.heap.size + 1, 2, none⟩))
          have hS : Sd wz3 [w.heap.size + 1 + 1 + 1] CL wu := hp.S
          have c3 := hS.at_ 3 ⟨w.heap.size + 1, 2, none⟩ (.int .i32 (q2).v) (by rw [hCL]; rfl)
          have hk := hK.pure (.int .i32 (q2).v) hp.S
          clear hp hK hS
          go_simp
          exact hk
        · intro a wu γ nph K hp hK
          obtain ⟨e6a, e6b⟩ := hp.old_ 6 (.pointer (some ⟨w.heap.size + 1, 0, none⟩))
          have hk := hK.pure (.pointer (some ⟨w.heap.size + 1, 3, none⟩)) hp.S
          clear hp hK
          go_simp
          exact hk
        · intro a wu γ nph K hp hK
          obtain ⟨e78a, e78b⟩ := hp.dep_ 78 10 (.pointer (some ⟨w.heap.size + 1, 3, none⟩))
          have hS : Sd wz3 [w.heap.size + 1 + 1 + 1] CL wu := hp.S
          have c4 := hS.at_ 4 ⟨w.heap.size + 1, 3, none⟩ (.int .i32 (q3).v) (by rw [hCL]; rfl)
          have hk := hK.pure (.int .i32 (q3).v) hp.S
          clear hp hK hS
          go_simp
          exact hk
        · intro a wu γ nph K hp hK
          obtain ⟨e75a, e75b⟩ := hp.dep_ 75 7 (.func (.func 92) #[.agg #[.iface 74 (.pointer (some p))]] #[])
          obtain ⟨e77a, e77b⟩ := hp.dep_ 77 9 (.int .i32 (q2).v)
          obtain ⟨e79a, e79b⟩ := hp.dep_ 79 11 (.int .i32 (q3).v)
          have hS : Sd wz3 [w.heap.size + 1 + 1 + 1] CL wu := hp.S
          have hk := hK.call (.int .i32 (mulqW (q2) (q3)).v)
          clear hp hK
          go_simp
          refine (w_mulq p _ _ _).mono ?_
          rintro e w7 ⟨rfl, hcX⟩
          exact hk _ (hS.call hcX) (Reg.keep_call _ rfl hcX)
        · intro a wu γ nph K hp hK
          obtain ⟨e80a, e80b⟩ := hp.dep_ 80 12 (.int .i32 (mulqW (q2) (q3)).v)
          have hk := hK.new 21 [.int .i32 (mulqW (q2) (q3)).v] (fun g => .slice (some ⟨g, 0, none⟩) 1 1)
          clear hp hK
          go_simp
          exact hk
        · intro a wu γ nph K hp hK
          obtain ⟨e68a, e68b⟩ := hp.dep_ 68 0 (.agg #[.iface 74 (.pointer (some p))])
          obtain ⟨e74a, e74b⟩ := hp.dep_ 74 6 (.int .i32 (mulqW (q0) (q1)).v)
          obtain ⟨e81a, e81b⟩ := hp.dep_ 81 13 (.slice (some ⟨γ 13, 0, none⟩) 1 1)
          have hS : Sd wz3 [w.heap.size + 1 + 1 + 1] CL wu := hp.S
          have nb13 : Blk wu (γ 13) 21 [.int .i32 (mulqW (q2) (q3)).v] := (hp.blk_ 13 (T := 21) (c := [.int .i32 (mulqW (q2) (q3)).v])).1
          have hk := hK.call (.int .i32 (moreW (mulqW (q0) (q1)) [mulqW (q2) (q3)]).v)
          clear hp hK
          go_simp
          refine (wmore_calls p _ [mulqW (q2) (q3)] _ _ (Sl.blk' (show Blk wu (γ 13) 21 (wds [mulqW (q2) (q3)]) from nb13) rfl (Nat.le_refl _)) (by simp)).mono ?_
          rintro e w7 ⟨rfl, hcX⟩
          exact hk _ (hS.call hcX) (Reg.keep_call _ rfl hcX)
        · intro a wu γ nph K hp hK
          obtain ⟨e82a, e82b⟩ := hp.dep_ 82 14 (.int .i32 (moreW (mulqW (q0) (q1)) [mulqW (q2) (q3)]).v)
          have hk := hK.pure (.int .i32 (moreW (mulqW (q0) (q1)) [mulqW (q2) (q3)]).v) hp.S
          clear hp hK
          go_simp
          exact hk
      · intro a wu γ nph K hp hK
        obtain ⟨e5a, e5b⟩ := hp.old_ 5 (.pointer (some ⟨w.heap.size, 0, none⟩))
        have hS : Sd wz2 [w.heap.size + 1 + 1 + 1] CL wu := hp.S
        have c0 := hS.at_ 0 ⟨w.heap.size, 0, none⟩ (.iface 74 (.pointer (some p))) (by rw [hCL]; rfl)
        have hk := hK.pure (.agg #[.iface 74 (.pointer (some p))]) hp.S
        clear hp hK hS
        go_simp
        exact hk
      · intro a wu γ nph K hp hK
        obtain ⟨e11a, e11b⟩ := hp.old_ 11 (.func (.func 92) #[.agg #[.iface 74 (.pointer (some p))]] #[])
        have hk := hK.pure (.func (.func 92) #[.agg #[.iface 74 (.pointer (some p))]] #[]) hp.S
        clear hp hK
        go_simp
        exact hk
      · intro a wu γ nph K hp hK
        obtain ⟨e6a, e6b⟩ := hp.old_ 6 (.pointer (some ⟨w.heap.size + 1, 0, none⟩))
        have hk := hK.pure (.pointer (some ⟨w.heap.size + 1, 1, none⟩)) hp.S
        clear hp hK
        go_simp
        exact hk
      · intro a wu γ nph K hp hK
        obtain ⟨e55a, e55b⟩ := hp.dep_ 55 2 (.pointer (some ⟨w.heap.size + 1, 1, none⟩))
        have hS : Sd wz2 [w.heap.size + 1 + 1 + 1] CL wu := hp.S
        have c2 := hS.at_ 2 ⟨w.heap.size + 1, 1, none⟩ (.int .i32 (q1).v) (by rw [hCL]; rfl)
        have hk := hK.pure (.int .i32 (q1).v) hp.S
        clear hp hK hS
        go_simp
        exact hk
      · intro a wu γ nph K hp hK
        obtain ⟨e6a, e6b⟩ := hp.old_ 6 (.pointer (some ⟨w.heap.size + 1, 0, none⟩))
        have hk := hK.pure (.pointer (some ⟨w.heap.size + 1, 2, none⟩)) hp.S
        clear hp hK
        go_simp
        exact hk
      · intro a wu γ nph K hp hK
        obtain ⟨e57a, e57b⟩ := hp.dep_ 57 4 (.pointer (some ⟨w.heap.size + 1, 2, none⟩))
        have hS : Sd wz2 [w.heap.size + 1 + 1 + 1] CL wu := hp.S
        have c3 := hS.at_ 3 ⟨w.heap.size + 1, 2, none⟩ (.int .i32 (q2).v) (by rw [hCL]; rfl)
        have hk := hK.pure (.int .i32 (q2).v) hp.S
        clear hp hK hS
        go_simp
        exact hk
      · intro a wu γ nph K hp hK
        obtain ⟨e54a, e54b⟩ := hp.dep_ 54 1 (.func (.func 92) #[.agg #[.iface 74 (.pointer (some p))]] #[])
        obtain ⟨e56a, e56b⟩ := hp.dep_ 56 3 (.int .i32 (q1).v)
        obtain ⟨e58a, e58b⟩ := hp.dep_ 58 5 (.int .i32 (q2).v)
        have hS : Sd wz2 [w.heap.size + 1 + 1 + 1] CL wu := hp.S
        have hk := hK.call (.int .i32 (mulqW (q1) (q2)).v)
        clear hp hK
        go_simp
        refine (w_mulq p _ _ _).mono ?_
        rintro e w7 ⟨rfl, hcX⟩
        exact hk _ (hS.call hcX) (Reg.keep_call _ rfl hcX)
      · intro a wu γ nph K hp hK
        obtain ⟨e11a, e11b⟩ := hp.old_ 11 (.func (.func 92) #[.agg #[.iface 74 (.pointer (some p))]] #[])
        have hk := hK.pure (.func (.func 92) #[.agg #[.iface 74 (.pointer (some p))]] #[]) hp.S
        clear hp hK
        go_simp
        exact hk
      · intro a wu γ nph K hp hK
        obtain ⟨e6a, e6b⟩ := hp.old_ 6 (.pointer (some ⟨w.heap.size + 1, 0, none⟩))
        have hk := hK.pure (.pointer (some ⟨w.heap.size + 1, 0, none⟩)) hp.S
        clear hp hK
        go_simp
        exact hk
      · intro a wu γ nph K hp hK
        obtain ⟨e61a, e61b⟩ := hp.dep_ 61 8 (.pointer (some ⟨w.heap.size + 1, 0, none⟩))
        have hS : Sd wz2 [w.heap.size + 1 + 1 + 1] CL wu := hp.S
        have c1 := hS.at_ 1 ⟨w.heap.size + 1, 0, none⟩ (.int .i32 (q0).v) (by rw [hCL]; rfl)
        have hk := hK.pure (.int .i32 (q0).v) hp.S
        clear hp hK hS
        go_simp
        exact hk
      · intro a wu γ nph K hp hK
        obtain ⟨e6a, e6b⟩ := hp.old_ 6 (.pointer (some ⟨w.heap.size + 1, 0, none⟩))
        have hk := hK.pure (.pointer (some ⟨w.heap.size + 1, 3, none⟩)) hp.S
        clear hp hK
        go_simp
        exact hk
      · intro a wu γ nph K hp hK
        obtain ⟨e63a, e63b⟩ := hp.dep_ 63 10 (.pointer (some ⟨w.heap.size + 1, 3, none⟩))
        have hS : Sd wz2 [w.heap.size + 1 + 1 + 1] CL wu := hp.S
        have c4 := hS.at_ 4 ⟨w.heap.size + 1, 3, none⟩ (.int .i32 (q3).v) (by rw [hCL]; rfl)
        have hk := hK.pure (.int .i32 (q3).v) hp.S
        clear hp hK hS
        go_simp
        exact hk
      · intro a wu γ nph K hp hK
        obtain ⟨e60a, e60b⟩ := hp.dep_ 60 7 (.func (.func 92) #[.agg #[.iface 74 (.pointer (some p))]] #[])
        obtain ⟨e62a, e62b⟩ := hp.dep_ 62 9 (.int .i32 (q0).v)
        obtain ⟨e64a, e64b⟩ := hp.dep_ 64 11 (.int .i32 (q3).v)
        have hS : Sd wz2 [w.heap.size + 1 + 1 + 1] CL wu := hp.S
        have hk := hK.call (.int .i32 (mulqW (q0) (q3)).v)
        clear hp hK
        go_simp
        refine (w_mulq p _ _ _).mono ?_
        rintro e w7 ⟨rfl, hcX⟩
        exact hk _ (hS.call hcX) (Reg.keep_call _ rfl hcX)
      · intro a wu γ nph K hp hK
        obtain ⟨e65a, e65b⟩ := hp.dep_ 65 12 (.int .i32 (mulqW (q0) (q3)).v)
        have hk := hK.new 21 [.int .i32 (mulqW (q0) (q3)).v] (fun g => .slice (some ⟨g, 0, none⟩) 1 1)
        clear hp hK
        go_simp
        exact hk
      · intro a wu γ nph K hp hK
        obtain ⟨e53a, e53b⟩ := hp.dep_ 53 0 (.agg #[.iface 74 (.pointer (some p))])
        obtain ⟨e59a, e59b⟩ := hp.dep_ 59 6 (.int .i32 (mulqW (q1) (q2)).v)
        obtain ⟨e66a, e66b⟩ := hp.dep_ 66 13 (.slice (some ⟨γ 13, 0, none⟩) 1 1)
        have hS : Sd wz2 [w.heap.size + 1 + 1 + 1] CL wu := hp.S
        have nb13 : Blk wu (γ 13) 21 [.int .i32 (mulqW (q0) (q3)).v] := (hp.blk_ 13 (T := 21) (c := [.int .i32 (mulqW (q0) (q3)).v])).1
        have hk := hK.call (.int .i32 (lessW (mulqW (q1) (q2)) [mulqW (q0) (q3)]).v)
        clear hp hK
        go_simp
        refine (wless_calls p _ [mulqW (q0) (q3)] _ _ (Sl.blk' (show Blk wu (γ 13) 21 (wds [mulqW (q0) (q3)]) from nb13) rfl (Nat.le_refl _)) (by simp)).mono ?_
        rintro e w7 ⟨rfl, hcX⟩
        exact hk _ (hS.call hcX) (Reg.keep_call _ rfl hcX)
      · intro a wu γ nph K hp hK
        obtain ⟨e67a, e67b⟩ := hp.dep_ 67 14 (.int .i32 (lessW (mulqW (q1) (q2)) [mulqW (q0) (q3)]).v)
        have hk := hK.pure (.int .i32 (lessW (mulqW (q1) (q2)) [mulqW (q0) (q3)]).v) hp.S
        clear hp hK
        go_simp
        exact hk
    · intro a wu γ nph K hp hK
      obtain ⟨e5a, e5b⟩ := hp.old_ 5 (.pointer (some ⟨w.heap.size, 0, none⟩))
      have hS : Sd wz1 [w.heap.size + 1 + 1 + 1] CL wu := hp.S
      have c0 := hS.at_ 0 ⟨w.heap.size, 0, none⟩ (.iface 74 (.pointer (some p))) (by rw [hCL]; rfl)
      have hk := hK.pure (.agg #[.iface 74 (.pointer (some p))]) hp.S
      clear hp hK hS
      go_simp
      exact hk
    · intro a wu γ nph K hp hK
      obtain ⟨e11a, e11b⟩ := hp.old_ 11 (.func (.func 92) #[.agg #[.iface 74 (.pointer (some p))]] #[])
      have hk := hK.pure (.func (.func 92) #[.agg #[.iface 74 (.pointer (some p))]] #[]) hp.S
      clear hp hK
      go_simp
      exact hk
    · intro a wu γ nph K hp hK
      obtain ⟨e6a, e6b⟩ := hp.old_ 6 (.pointer (some ⟨w.heap.size + 1, 0, none⟩))
      have hk := hK.pure (.pointer (some ⟨w.heap.size + 1, 1, none⟩)) hp.S
      clear hp hK
      go_simp
      exact hk
    · intro a wu γ nph K hp hK
      obtain ⟨e40a, e40b⟩ := hp.dep_ 40 2 (.pointer (some ⟨w.heap.size + 1, 1, none⟩))
      have hS : Sd wz1 [w.heap.size + 1 + 1 + 1] CL wu := hp.S
      have c2 := hS.at_ 2 ⟨w.heap.size + 1, 1, none⟩ (.int .i32 (q1).v) (by rw [hCL]; rfl)
      have hk := hK.pure (.int .i32 (q1).v) hp.S
      clear hp hK hS
      go_simp
      exact hk
    · intro a wu γ nph K hp hK
      obtain ⟨e6a, e6b⟩ := hp.old_ 6 (.pointer (some ⟨w.heap.size + 1, 0, none⟩))
      have hk := hK.pure (.pointer (some ⟨w.heap.size + 1, 3, none⟩)) hp.S
      clear hp hK
      go_simp
      exact hk
    · intro a wu γ nph K hp hK
      obtain ⟨e42a, e42b⟩ := hp.dep_ 42 4 (.pointer (some ⟨w.heap.size + 1, 3, none⟩))
      have hS : Sd wz1 [w.heap.size + 1 + 1 + 1] CL wu := hp.S
      have c4 := hS.at_ 4 ⟨w.heap.size + 1, 3, none⟩ (.int .i32 (q3).v) (by rw [hCL]; rfl)
      have hk := hK.pure (.int .i32 (q3).v) hp.S
      clear hp hK hS
      go_simp
      exact hk
    · intro a wu γ nph K hp hK
      obtain ⟨e39a, e39b⟩ := hp.dep_ 39 1 (.func (.func 92) #[.agg #[.iface 74 (.pointer (some p))]] #[])
      obtain ⟨e41a, e41b⟩ := hp.dep_ 41 3 (.int .i32 (q1).v)
      obtain ⟨e43a, e43b⟩ := hp.dep_ 43 5 (.int .i32 (q3).v)
      have hS : Sd wz1 [w.heap.size + 1 + 1 + 1] CL wu := hp.S
      have hk := hK.call (.int .i32 (mulqW (q1) (q3)).v)
      clear hp hK
      go_simp
      refine (w_mulq p _ _ _).mono ?_
      rintro e w7 ⟨rfl, hcX⟩
      exact hk _ (hS.call hcX) (Reg.keep_call _ rfl hcX)
    · intro a wu γ nph K hp hK
      obtain ⟨e11a, e11b⟩ := hp.old_ 11 (.func (.func 92) #[.agg #[.iface 74 (.pointer (some p))]] #[])
      have hk := hK.pure (.func (.func 92) #[.agg #[.iface 74 (.pointer (some p))]] #[]) hp.S
      clear hp hK
      go_simp
      exact hk
    · intro a wu γ nph K hp hK
      obtain ⟨e6a, e6b⟩ := hp.old_ 6 (.pointer (some ⟨w.heap.size + 1, 0, none⟩))
      have hk := hK.pure (.pointer (some ⟨w.heap.size + 1, 0, none⟩)) hp.S
      clear hp hK
      go_simp
      exact hk
    · intro a wu γ nph K hp hK
      obtain ⟨e46a, e46b⟩ := hp.dep_ 46 8 (.pointer (some ⟨w.heap.size + 1, 0, none⟩))
      have hS : Sd wz1 [w.heap.size + 1 + 1 + 1] CL wu := hp.S
      have c1 := hS.at_ 1 ⟨w.heap.size + 1, 0, none⟩ (.int .i32 (q0).v) (by rw [hCL]; rfl)
      have hk := hK.pure (.int .i32 (q0).v) hp.S
      clear hp hK hS
      go_simp
      exact hk
    · intro a wu γ nph K hp hK
      obtain ⟨e6a, e6b⟩ := hp.old_ 6 (.pointer (some ⟨w.heap.size + 1, 0, none⟩))
      have hk := hK.pure (.pointer (some ⟨w.heap.size + 1, 2, none⟩)) hp.S
      clear hp hK
      go_simp
      exact hk
    · intro a wu γ nph K hp hK
      obtain ⟨e48a, e48b⟩ := hp.dep_ 48 10 (.pointer (some ⟨w.heap.size + 1, 2, none⟩))
      have hS : Sd wz1 [w.heap.size + 1 + 1 + 1] CL wu := hp.S
      have c3 := hS.at_ 3 ⟨w.heap.size + 1, 2, none⟩ (.int .i32 (q2).v) (by rw [hCL]; rfl)
      have hk := hK.pure (.int .i32 (q2).v) hp.S
      clear hp hK hS
      go_simp
      exact hk
    · intro a wu γ nph K hp hK
      obtain ⟨e45a, e45b⟩ := hp.dep_ 45 7 (.func (.func 92) #[.agg #[.iface 74 (.pointer (some p))]] #[])
      obtain ⟨e47a, e47b⟩ := hp.dep_ 47 9 (.int .i32 (q0).v)
      obtain ⟨e49a, e49b⟩ := hp.dep_ 49 11 (.int .i32 (q2).v)
      have hS : Sd wz1 [w.heap.size + 1 + 1 + 1] CL wu := hp.S
      have hk := hK.call (.int .i32 (mulqW (q0) (q2)).v)
      clear hp hK
      go_simp
      refine (w_mulq p _ _ _).mono ?_
      rintro e w7 ⟨rfl, hcX⟩
      exact hk _ (hS.call hcX) (Reg.keep_call _ rfl hcX)
    · intro a wu γ nph K hp hK
      obtain ⟨e50a, e50b⟩ := hp.dep_ 50 12 (.int .i32 (mulqW (q0) (q2)).v)
      have hk := hK.new 21 [.int .i32 (mulqW (q0) (q2)).v] (fun g => .slice (some ⟨g, 0, none⟩) 1 1)
      clear hp hK
      go_simp
      exact hk
    · intro a wu γ nph K hp hK
      obtain ⟨e38a, e38b⟩ := hp.dep_ 38 0 (.agg #[.iface 74 (.pointer (some p))])
      obtain ⟨e44a, e44b⟩ := hp.dep_ 44 6 (.int .i32 (mulqW (q1) (q3)).v)
      obtain ⟨e51a, e51b⟩ := hp.dep_ 51 13 (.slice (some ⟨γ 13, 0, none⟩) 1 1)
      have hS : Sd wz1 [w.heap.size + 1 + 1 + 1] CL wu := hp.S
      have nb13 : Blk wu (γ 13) 21 [.int .i32 (mulqW (q0) (q2)).v] := (hp.blk_ 13 (T := 21) (c := [.int .i32 (mulqW (q0) (q2)).v])).1
      have hk := hK.call (.int .i32 (lessW (mulqW (q1) (q3)) [mulqW (q0) (q2)]).v)
      clear hp hK
      go_simp
      refine (wless_calls p _ [mulqW (q0) (q2)] _ _ (Sl.blk' (show Blk wu (γ 13) 21 (wds [mulqW (q0) (q2)]) from nb13) rfl (Nat.le_refl _)) (by simp)).mono ?_
      rintro e w7 ⟨rfl, hcX⟩
      exact hk _ (hS.call hcX) (Reg.keep_call _ rfl hcX)
    · intro a wu γ nph K hp hK
      obtain ⟨e52a, e52b⟩ := hp.dep_ 52 14 (.int .i32 (lessW (mulqW (q1) (q3)) [mulqW (q0) (q2)]).v)
      have hk := hK.pure (.int .i32 (lessW (mulqW (q1) (q3)) [mulqW (q0) (q2)]).v) hp.S
      clear hp hK
      go_simp
      exact hk
  · intro a wu γ nph K hp hK
    obtain ⟨e5a, e5b⟩ := hp.old_ 5 (.pointer (some ⟨w.heap.size, 0, none⟩))
    have hS : Sd w6 [w.heap.size + 1 + 1 + 1] CL wu := hp.S
    have c0 := hS.at_ 0 ⟨w.heap.size, 0, none⟩ (.iface 74 (.pointer (some p))) (by rw [hCL]; rfl)
    have hk := hK.pure (.agg #[.iface 74 (.pointer (some p))]) hp.S
    clear hp hK hS
    go_simp
    exact hk
  · intro a wu γ nph K hp hK
    obtain ⟨e5a, e5b⟩ := hp.old_ 5 (.pointer (some ⟨w.heap.size, 0, none⟩))
    have hk := hK.pure (.pointer (some ⟨w.heap.size, 0, none⟩)) hp.S
    clear hp hK
    go_simp
    exact hk
  · intro a wu γ nph K hp hK
    obtain ⟨e21a, e21b⟩ := hp.dep_ 21 1 (.pointer (some ⟨w.heap.size, 0, none⟩))
    have hS : Sd w6 [w.heap.size + 1 + 1 + 1] CL wu := hp.S
    have c0 := hS.at_ 0 ⟨w.heap.size, 0, none⟩ (.iface 74 (.pointer (some p))) (by rw [hCL]; rfl)
    have hk := hK.pure (.iface 74 (.pointer (some p))) hp.S
    clear hp hK hS
    go_simp
    exact hk
  · intro a wu γ nph K hp hK
    obtain ⟨e22a, e22b⟩ := hp.dep_ 22 2 (.iface 74 (.pointer (some p)))
    have hS : Sd w6 [w.heap.size + 1 + 1 + 1] CL wu := hp.S
    have hk := hK.call (.int .i32 (kW (536870912)).v)
    clear hp hK
    go_simp
    refine (w_const p _ _ (by first | assumption | decide)).mono ?_
    rintro e w7 ⟨rfl, hcX⟩
    exact hk _ (hS.call hcX) (Reg.keep_call _ rfl hcX)
  · intro a wu γ nph K hp hK
    obtain ⟨e11a, e11b⟩ := hp.old_ 11 (.func (.func 92) #[.agg #[.iface 74 (.pointer (some p))]] #[])
    have hk := hK.pure (.func (.func 92) #[.agg #[.iface 74 (.pointer (some p))]] #[]) hp.S
    clear hp hK
    go_simp
    exact hk
  · intro a wu γ nph K hp hK
    obtain ⟨e6a, e6b⟩ := hp.old_ 6 (.pointer (some ⟨w.heap.size + 1, 0, none⟩))
    have hk := hK.pure (.pointer (some ⟨w.heap.size + 1, 2, none⟩)) hp.S
    clear hp hK
    go_simp
    exact hk
  · intro a wu γ nph K hp hK
    obtain ⟨e25a, e25b⟩ := hp.dep_ 25 5 (.pointer (some ⟨w.heap.size + 1, 2, none⟩))
    have hS : Sd w6 [w.heap.size + 1 + 1 + 1] CL wu := hp.S
    have c3 := hS.at_ 3 ⟨w.heap.size + 1, 2, none⟩ (.int .i32 (q2).v) (by rw [hCL]; rfl)
    have hk := hK.pure (.int .i32 (q2).v) hp.S
    clear hp hK hS
    go_simp
    exact hk
  · intro a wu γ nph K hp hK
    obtain ⟨e6a, e6b⟩ := hp.old_ 6 (.pointer (some ⟨w.heap.size + 1, 0, none⟩))
    have hk := hK.pure (.pointer (some ⟨w.heap.size + 1, 2, none⟩)) hp.S
    clear hp hK
    go_simp
    exact hk
  · intro a wu γ nph K hp hK
    obtain ⟨e27a, e27b⟩ := hp.dep_ 27 7 (.pointer (some ⟨w.heap.size + 1, 2, none⟩))
    have hS : Sd w6 [w.heap.size + 1 + 1 + 1] CL wu := hp.S
    have c3 := hS.at_ 3 ⟨w.heap.size + 1, 2, none⟩ (.int .i32 (q2).v) (by rw [hCL]; rfl)
    have hk := hK.pure (.int .i32 (q2).v) hp.S
    clear hp hK hS
    go_simp
    exact hk
  · intro a wu γ nph K hp hK
    obtain ⟨e24a, e24b⟩ := hp.dep_ 24 4 (.func (.func 92) #[.agg #[.iface 74 (.pointer (some p))]] #[])
    obtain ⟨e26a, e26b⟩ := hp.dep_ 26 6 (.int .i32 (q2).v)
    obtain ⟨e28a, e28b⟩ := hp.dep_ 28 8 (.int .i32 (q2).v)
    have hS : Sd w6 [w.heap.size + 1 + 1 + 1] CL wu := hp.S
    have hk := hK.call (.int .i32 (mulqW (q2) (q2)).v)
    clear hp hK
    go_simp
    refine (w_mulq p _ _ _).mono ?_
    rintro e w7 ⟨rfl, hcX⟩
    exact hk _ (hS.call hcX) (Reg.keep_call _ rfl hcX)
  · intro a wu γ nph K hp hK
    obtain ⟨e11a, e11b⟩ := hp.old_ 11 (.func (.func 92) #[.agg #[.iface 74 (.pointer (some p))]] #[])
    have hk := hK.pure (.func (.func 92) #[.agg #[.iface 74 (.pointer (some p))]] #[]) hp.S
    clear hp hK
    go_simp
    exact hk
  · intro a wu γ nph K hp hK
    obtain ⟨e6a, e6b⟩ := hp.old_ 6 (.pointer (some ⟨w.heap.size + 1, 0, none⟩))
    have hk := hK.pure (.pointer (some ⟨w.heap.size + 1, 3, none⟩)) hp.S
    clear hp hK
    go_simp
    exact hk
  · intro a wu γ nph K hp hK
    obtain ⟨e31a, e31b⟩ := hp.dep_ 31 11 (.pointer (some ⟨w.heap.size + 1, 3, none⟩))
    have hS : Sd w6 [w.heap.size + 1 + 1 + 1] CL wu := hp.S
    have c4 := hS.at_ 4 ⟨w.heap.size + 1, 3, none⟩ (.int .i32 (q3).v) (by rw [hCL]; rfl)
    have hk := hK.pure (.int .i32 (q3).v) hp.S
    clear hp hK hS
    go_simp
    exact hk
  · intro a wu γ nph K hp hK
    obtain ⟨e6a, e6b⟩ := hp.old_ 6 (.pointer (some ⟨w.heap.size + 1, 0, none⟩))
    have hk := hK.pure (.pointer (some ⟨w.heap.size + 1, 3, none⟩)) hp.S
    clear hp hK
    go_simp
    exact hk
  · intro a wu γ nph K hp hK
    obtain ⟨e33a, e33b⟩ := hp.dep_ 33 13 (.pointer (some ⟨w.heap.size + 1, 3, none⟩))
    have hS : Sd w6 [w.heap.size + 1 + 1 + 1] CL wu := hp.S
    have c4 := hS.at_ 4 ⟨w.heap.size + 1, 3, none⟩ (.int .i32 (q3).v) (by rw [hCL]; rfl)
    have hk := hK.pure (.int .i32 (q3).v) hp.S
    clear hp hK hS
    go_simp
    exact hk
  · intro a wu γ nph K hp hK
    obtain ⟨e30a, e30b⟩ := hp.dep_ 30 10 (.func (.func 92) #[.agg #[.iface 74 (.pointer (some p))]] #[])
    obtain ⟨e32a, e32b⟩ := hp.dep_ 32 12 (.int .i32 (q3).v)
    obtain ⟨e34a, e34b⟩ := hp.dep_ 34 14 (.int .i32 (q3).v)
    have hS : Sd w6 [w.heap.size + 1 + 1 + 1] CL wu := hp.S
    have hk := hK.call (.int .i32 (mulqW (q3) (q3)).v)
    clear hp hK
    go_simp
    refine (w_mulq p _ _ _).mono ?_
    rintro e w7 ⟨rfl, hcX⟩
    exact hk _ (hS.call hcX) (Reg.keep_call _ rfl hcX)
  · intro a wu γ nph K hp hK
    obtain ⟨e29a, e29b⟩ := hp.dep_ 29 9 (.int .i32 (mulqW (q2) (q2)).v)
    obtain ⟨e35a, e35b⟩ := hp.dep_ 35 15 (.int .i32 (mulqW (q3) (q3)).v)
    have hk := hK.new 21 [.int .i32 (mulqW (q2) (q2)).v, .int .i32 (mulqW (q3) (q3)).v] (fun g => .slice (some ⟨g, 0, none⟩) 2 2)
    clear hp hK
    go_simp
    exact hk
  · intro a wu γ nph K hp hK
    obtain ⟨e20a, e20b⟩ := hp.dep_ 20 0 (.agg #[.iface 74 (.pointer (some p))])
    obtain ⟨e23a, e23b⟩ := hp.dep_ 23 3 (.int .i32 (kW (536870912)).v)
    obtain ⟨e36a, e36b⟩ := hp.dep_ 36 16 (.slice (some ⟨γ 16, 0, none⟩) 2 2)
    have hS : Sd w6 [w.heap.size + 1 + 1 + 1] CL wu := hp.S
    have nb16 : Blk wu (γ 16) 21 [.int .i32 (mulqW (q2) (q2)).v, .int .i32 (mulqW (q3) (q3)).v] := (hp.blk_ 16 (T := 21) (c := [.int .i32 (mulqW (q2) (q2)).v, .int .i32 (mulqW (q3) (q3)).v])).1
    have hk := hK.call (.int .i32 (lessW (kW (536870912)) [mulqW (q2) (q2), mulqW (q3) (q3)]).v)
    clear hp hK
    go_simp
    refine (wless_calls p _ [mulqW (q2) (q2), mulqW (q3) (q3)] _ _ (Sl.blk' (show Blk wu (γ 16) 21 (wds [mulqW (q2) (q2), mulqW (q3) (q3)]) from nb16) rfl (Nat.le_refl _)) (by simp)).mono ?_
    rintro e w7 ⟨rfl, hcX⟩
    exact hk _ (hS.call hcX) (Reg.keep_call _ rfl hcX)
  · intro a wu γ nph K hp hK
    obtain ⟨e37a, e37b⟩ := hp.dep_ 37 17 (.int .i32 (lessW (kW (536870912)) [mulqW (q2) (q2), mulqW (q3) (q3)]).v)
    have hk := hK.pure (.int .i32 (lessW (kW (536870912)) [mulqW (q2) (q2), mulqW (q3) (q3)]).v) hp.S
    clear hp hK
    go_simp
    exact hk

end Go.Proofs.YtbmfcedndbgpoaaGreat
