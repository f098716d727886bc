/- Pull, errors of package works at numbers. -/
import Derived.Test.YtkfkoobdmnndcaaGreatWorks4
namespace Go.Proofs.YtkfkoobdmnndcaaGreat
open Go.RowKit Go.Deep
set_option linter.unusedVariables false
set_option maxRecDepth 100000 in
set_option maxHeartbeats 4000000 in
theorem wpull_calls (p : Addr) (q0 q1 q2 q3 a0 a1 a2 : Wd) (w : World) :
    Calls Tryz.prog 43 #[.agg #[.iface 59 (.pointer (some p))], .agg #[.int .i32 q0.v, .int .i32 q1.v, .int .i32 q2.v, .int .i32 q3.v], .agg #[.int .i32 a0.v, .int .i32 a1.v, .int .i32 a2.v]] w fun e w' => e = .returned (.agg #[.int .i32 (pullW q0 q1 q2 q3 a0 a1 a2).a.v, .int .i32 (pullW q0 q1 q2 q3 a0 a1 a2).b.v, .int .i32 (pullW q0 q1 q2 q3 a0 a1 a2).c.v, .int .i32 (pullW q0 q1 q2 q3 a0 a1 a2).d.v]) ∧ Chg w w' [] := by
  have k0 := Blk.new w 40 [.iface 59 (.pointer (some p))]
  have m0 := (((k0.alloc (.cells #[.int .i32 q0.v, .int .i32 q1.v, .int .i32 q2.v, .int .i32 q3.v] 27)).alloc (.cells #[.int .i32 a0.v, .int .i32 a1.v, .int .i32 a2.v] 22)).alloc (.cells #[.int .i32 0, .int .i32 0, .int .i32 0, .int .i32 0] 27))
  have g0_0 := m0.cell' (i := 0) rfl
  have k1 := Blk.new (w.alloc (.cells #[.iface 59 (.pointer (some p))] 40)) 27 [.int .i32 q0.v, .int .i32 q1.v, .int .i32 q2.v, .int .i32 q3.v]
  have m1 := ((k1.alloc (.cells #[.int .i32 a0.v, .int .i32 a1.v, .int .i32 a2.v] 22)).alloc (.cells #[.int .i32 0, .int .i32 0, .int .i32 0, .int .i32 0] 27))
  simp only [size_alloc] at m1
  have g1_0 := m1.cell' (i := 0) rfl
  have g1_1 := m1.cell' (i := 1) rfl
  have g1_2 := m1.cell' (i := 2) rfl
  have g1_3 := m1.cell' (i := 3) rfl
  have k2 := Blk.new ((w.alloc (.cells #[.iface 59 (.pointer (some p))] 40)).alloc (.cells #[.int .i32 q0.v, .int .i32 q1.v, .int .i32 q2.v, .int .i32 q3.v] 27)) 22 [.int .i32 a0.v, .int .i32 a1.v, .int .i32 a2.v]
  have m2 := (k2.alloc (.cells #[.int .i32 0, .int .i32 0, .int .i32 0, .int .i32 0] 27))
  simp only [size_alloc] at m2
  have g2_0 := m2.cell' (i := 0) rfl
  have g2_1 := m2.cell' (i := 1) rfl
  have g2_2 := m2.cell' (i := 2) rfl
  have k3 := Blk.new (((w.alloc (.cells #[.iface 59 (.pointer (some p))] 40)).alloc (.cells #[.int .i32 q0.v, .int .i32 q1.v, .int .i32 q2.v, .int .i32 q3.v] 27)).alloc (.cells #[.int .i32 a0.v, .int .i32 a1.v, .int .i32 a2.v] 22)) 27 [.int .i32 0, .int .i32 0, .int .i32 0, .int .i32 0]
  have m3 := k3
  simp only [size_alloc] at m3
  have g3_0 := m3.cell' (i := 0) rfl
  have g3_1 := m3.cell' (i := 1) rfl
  have g3_2 := m3.cell' (i := 2) rfl
  have g3_3 := m3.cell' (i := 3) rfl
  have HC := hide (((((Chg.refl w []).alloc (.cells #[.iface 59 (.pointer (some p))] 40)).alloc (.cells #[.int .i32 q0.v, .int .i32 q1.v, .int .i32 q2.v, .int .i32 q3.v] 27)).alloc (.cells #[.int .i32 a0.v, .int .i32 a1.v, .int .i32 a2.v] 22)).alloc (.cells #[.int .i32 0, .int .i32 0, .int .i32 0, .int .i32 0] 27))
  clear k0 k1 k2 k3
  have h1 := nil_const p
  have h2 := meth_const p
  go_enter Tryz.func43, Tryz.ntmps43
  go_wp2_with fail
  generalize ((((w.alloc (.cells #[.iface 59 (.pointer (some p))] 40)).alloc (.cells #[.int .i32 q0.v, .int .i32 q1.v, .int .i32 q2.v, .int .i32 q3.v] 27)).alloc (.cells #[.int .i32 a0.v, .int .i32 a1.v, .int .i32 a2.v] 22)).alloc (.cells #[.int .i32 0, .int .i32 0, .int .i32 0, .int .i32 0] 27)) = w6 at *
  obtain ⟨CL, hCL⟩ : ∃ l : List (Addr × Value), l = [(⟨w.heap.size, 0, none⟩, .iface 59 (.pointer (some p))), (⟨w.heap.size + 1, 0, none⟩, .int .i32 (q0).v), (⟨w.heap.size + 1, 1, none⟩, .int .i32 (q1).v), (⟨w.heap.size + 1, 2, none⟩, .int .i32 (q2).v), (⟨w.heap.size + 1, 3, none⟩, .int .i32 (q3).v), (⟨w.heap.size + 1 + 1, 0, none⟩, .int .i32 (a0).v), (⟨w.heap.size + 1 + 1, 1, none⟩, .int .i32 (a1).v), (⟨w.heap.size + 1 + 1, 2, none⟩, .int .i32 (a2).v)] := ⟨_, rfl⟩
  have HS0 : Sd w6 [w.heap.size + 1 + 1 + 1] CL w6.drew := ⟨(Chg.refl w6 _).drew, by rw [hCL]; simp only [List.forall_mem_cons]; exact ⟨g0_0, g1_0, g1_1, g1_2, g1_3, g2_0, g2_1, g2_2, by simp⟩⟩
  have hU0 : ∀ p ∈ CL, p.1.block ∈ ([w.heap.size, w.heap.size + 1, w.heap.size + 1 + 1] : List Nat) := by rw [hCL]; simp only [List.forall_mem_cons]; exact ⟨by simp, by simp, by simp, by simp, by simp, by simp, by simp, by simp, by simp⟩
  have hlt0 : ∀ u ∈ ([w.heap.size, w.heap.size + 1, w.heap.size + 1 + 1] : List Nat), u < w6.heap.size := by simp only [List.forall_mem_cons]; exact ⟨World.block_lt_of_cell? _ _ g0_0, World.block_lt_of_cell? _ _ g1_0, World.block_lt_of_cell? _ _ g2_0, by simp⟩
  refine Reg.wp_region (Reg.of 20 _ _ [.agg #[.iface 59 (.pointer (some p))], .func (.func 70) #[.agg #[.iface 59 (.pointer (some p))]] #[], .pointer (some ⟨w.heap.size + 1, 1, none⟩), .int .i32 (q1).v, .pointer (some ⟨w.heap.size + 1, 3, none⟩), .int .i32 (q3).v, .int .i32 (mulqW (q1) (q3)).v, .func (.func 70) #[.agg #[.iface 59 (.pointer (some p))]] #[], .pointer (some ⟨w.heap.size + 1, 0, none⟩), .int .i32 (q0).v, .pointer (some ⟨w.heap.size + 1, 2, none⟩), .int .i32 (q2).v, .int .i32 (mulqW (q0) (q2)).v, .agg #[.iface 59 (.pointer (some p))], .pointer (some ⟨w.heap.size + 1 + 1, 0, none⟩), .int .i32 (a0).v, .int .i32 (downW (a0) (1)).v, undef, .int .i32 (lessW (mulqW (q1) (q3)) [mulqW (q0) (q2), downW (a0) (1)]).v, .int .i32 (lessW (mulqW (q1) (q3)) [mulqW (q0) (q2), downW (a0) (1)]).v] [fun _ => undef, fun _ => undef, fun _ => undef, fun _ => undef, fun _ => undef, fun _ => undef, fun _ => undef, fun _ => undef, fun _ => undef, fun _ => undef, fun _ => undef, fun _ => undef, fun _ => undef, fun _ => undef, fun _ => undef, fun _ => undef, fun _ => undef, fun g => .slice (some ⟨g, 0, none⟩) 2 2, fun _ => undef, fun _ => undef] [.val, .val, .val, .val, .val, .val, .val, .val, .val, .val, .val, .val, .val, .val, .val, .val, .val, .new 21 [.int .i32 (mulqW (q0) (q2)).v, .int .i32 (downW (a0) (1)).v], .val, .val] [(27, [.int .i32 0, .int .i32 0, .int .i32 0, .int .i32 0])] [w.heap.size + 1 + 1 + 1] [] (fun _ => Sd w6 [w.heap.size + 1 + 1 + 1] CL) (Fd w6 [w.heap.size + 1 + 1 + 1] [w.heap.size, w.heap.size + 1, w.heap.size + 1 + 1])) (Reg.good_of _ 153 (by kernel_rfl) (by kernel_rfl)) (stands_d _ w6 [w.heap.size + 1 + 1 + 1] [w.heap.size, w.heap.size + 1, w.heap.size + 1 + 1] CL rfl rfl rfl hU0 hlt0) (by kernel_rfl) HS0 (hold_of (by kernel_rfl) ?holdwz1) (ne_of (by kernel_rfl) ?hnewz1) (Reg.steps_of _ rfl ⟨?_, ?_, ?_, ?_, ?_, ?_, ?_, ?_, ?_, ?_, ?_, ?_, ?_, ?_, ?_, ?_, ?_, ?_, ?_, ?_, trivial⟩) ?hendwz1
  case holdwz1 =>
    intro k T c hk
    cases k with
    | zero => simp only [List.getElem?_cons_zero, Option.some.injEq, Prod.mk.injEq] at hk; obtain ⟨rfl, rfl⟩ := hk; exact ⟨m3, ⟨by simp; try omega, .inl (by simp)⟩⟩
    | succ k =>
      simp at hk
  case hnewz1 => intro i j hi hj hne; simp at hi hj; omega
  case hendwz1 =>
    intro wz1 γ hSz hBz hnez hOz
    replace hSz : Sd w6 [w.heap.size + 1 + 1 + 1] CL wz1 := hSz
    have nb17 : Blk wz1 (γ 17) 21 [.int .i32 (mulqW (q0) (q2)).v, .int .i32 (downW (a0) (1)).v] := (hBz 17 21 [.int .i32 (mulqW (q0) (q2)).v, .int .i32 (downW (a0) (1)).v] (by kernel_rfl) [.int .i32 (mulqW (q0) (q2)).v, .int .i32 (downW (a0) (1)).v] (by kernel_rfl)).1
    have nf17 : Fd w6 [w.heap.size + 1 + 1 + 1] [w.heap.size, w.heap.size + 1, w.heap.size + 1 + 1] wz1 (γ 17) := (hBz 17 21 [.int .i32 (mulqW (q0) (q2)).v, .int .i32 (downW (a0) (1)).v] (by kernel_rfl) [.int .i32 (mulqW (q0) (q2)).v, .int .i32 (downW (a0) (1)).v] (by kernel_rfl)).2.1
    have ob0 : Blk wz1 (w.heap.size + 1 + 1 + 1) 27 [.int .i32 0, .int .i32 0, .int .i32 0, .int .i32 0] := by have h := (hBz 20 27 [.int .i32 0, .int .i32 0, .int .i32 0, .int .i32 0] (by kernel_rfl) [.int .i32 0, .int .i32 0, .int .i32 0, .int .i32 0] (by kernel_rfl)).1; rw [hOz 20 (Nat.le_trans (Nat.le_of_eq (by kernel_rfl : _ = 20)) (by decide : 20 ≤ 20))] at h; exact h
    refine end_of [(8, .int .i32 (lessW (mulqW (q1) (q3)) [mulqW (q0) (q2), downW (a0) (1)]).v), (13, .agg #[.iface 59 (.pointer (some p))]), (14, .func (.func 70) #[.agg #[.iface 59 (.pointer (some p))]] #[]), (15, .pointer (some ⟨w.heap.size + 1, 1, none⟩)), (16, .int .i32 (q1).v), (17, .pointer (some ⟨w.heap.size + 1, 3, none⟩)), (18, .int .i32 (q3).v), (19, .int .i32 (mulqW (q1) (q3)).v), (20, .func (.func 70) #[.agg #[.iface 59 (.pointer (some p))]] #[]), (21, .pointer (some ⟨w.heap.size + 1, 0, none⟩)), (22, .int .i32 (q0).v), (23, .pointer (some ⟨w.heap.size + 1, 2, none⟩)), (24, .int .i32 (q2).v), (25, .int .i32 (mulqW (q0) (q2)).v), (26, .agg #[.iface 59 (.pointer (some p))]), (27, .pointer (some ⟨w.heap.size + 1 + 1, 0, none⟩)), (28, .int .i32 (a0).v), (29, .int .i32 (downW (a0) (1)).v), (30, .slice (some ⟨γ 17, 0, none⟩) 2 2), (31, .int .i32 (lessW (mulqW (q1) (q3)) [mulqW (q0) (q2), downW (a0) (1)]).v)] (by kernel_rfl) ?_
    clear hBz hnez hOz HS0 hU0
    simp only [Reg.of, List.foldl_cons, List.foldl_nil, List.setIfInBounds_toArray, List.set_cons_zero, List.set_cons_succ]
    generalize γ 17 = b17 at *
    have HC1 := hide (HC.out.trans hSz.chg (D := []) (by simp; try omega))
    have y1_0 : wz1.cell? ⟨w.heap.size, 0, none⟩ = some (.iface 59 (.pointer (some p))) := hSz.at_ 0 _ _ (by rw [hCL]; rfl)
    have y1_1 : wz1.cell? ⟨w.heap.size + 1, 0, none⟩ = some (.int .i32 (q0).v) := hSz.at_ 1 _ _ (by rw [hCL]; rfl)
    have y1_2 : wz1.cell? ⟨w.heap.size + 1, 1, none⟩ = some (.int .i32 (q1).v) := hSz.at_ 2 _ _ (by rw [hCL]; rfl)
    have y1_3 : wz1.cell? ⟨w.heap.size + 1, 2, none⟩ = some (.int .i32 (q2).v) := hSz.at_ 3 _ _ (by rw [hCL]; rfl)
    have y1_4 : wz1.cell? ⟨w.heap.size + 1, 3, none⟩ = some (.int .i32 (q3).v) := hSz.at_ 4 _ _ (by rw [hCL]; rfl)
    have y1_5 : wz1.cell? ⟨w.heap.size + 1 + 1, 0, none⟩ = some (.int .i32 (a0).v) := hSz.at_ 5 _ _ (by rw [hCL]; rfl)
    have y1_6 : wz1.cell? ⟨w.heap.size + 1 + 1, 1, none⟩ = some (.int .i32 (a1).v) := hSz.at_ 6 _ _ (by rw [hCL]; rfl)
    have y1_7 : wz1.cell? ⟨w.heap.size + 1 + 1, 2, none⟩ = some (.int .i32 (a2).v) := hSz.at_ 7 _ _ (by rw [hCL]; rfl)
    clear hSz hCL hlt0 CL g0_0 g1_0 g1_1 g1_2 g1_3 g2_0 g2_1 g2_2 HC m3
    have mo1_0 := ob0
    clear ob0
    clear nb17 nf17
    go_wp2_with fail
    obtain ⟨CL, hCL⟩ : ∃ l : List (Addr × Value), l = [(⟨w.heap.size, 0, none⟩, .iface 59 (.pointer (some p))), (⟨w.heap.size + 1, 0, none⟩, .int .i32 (q0).v), (⟨w.heap.size + 1, 1, none⟩, .int .i32 (q1).v), (⟨w.heap.size + 1, 2, none⟩, .int .i32 (q2).v), (⟨w.heap.size + 1, 3, none⟩, .int .i32 (q3).v), (⟨w.heap.size + 1 + 1, 0, none⟩, .int .i32 (a0).v), (⟨w.heap.size + 1 + 1, 1, none⟩, .int .i32 (a1).v), (⟨w.heap.size + 1 + 1, 2, none⟩, .int .i32 (a2).v)] := ⟨_, rfl⟩
    have HS0 : Sd wz1 [w.heap.size + 1 + 1 + 1] CL wz1.drew := ⟨(Chg.refl wz1 _).drew, by rw [hCL]; simp only [List.forall_mem_cons]; exact ⟨y1_0, y1_1, y1_2, y1_3, y1_4, y1_5, y1_6, y1_7, by simp⟩⟩
    have hU0 : ∀ p ∈ CL, p.1.block ∈ ([w.heap.size, w.heap.size + 1, w.heap.size + 1 + 1] : List Nat) := by rw [hCL]; simp only [List.forall_mem_cons]; exact ⟨by simp, by simp, by simp, by simp, by simp, by simp, by simp, by simp, by simp⟩
    have hlt0 : ∀ u ∈ ([w.heap.size, w.heap.size + 1, w.heap.size + 1 + 1] : List Nat), u < wz1.heap.size := by simp only [List.forall_mem_cons]; exact ⟨World.block_lt_of_cell? _ _ y1_0, World.block_lt_of_cell? _ _ y1_1, World.block_lt_of_cell? _ _ y1_5, by simp⟩
    refine Reg.wp_region (Reg.of 23 _ _ [.agg #[.iface 59 (.pointer (some p))], .agg #[.iface 59 (.pointer (some p))], .func (.func 70) #[.agg #[.iface 59 (.pointer (some p))]] #[], .pointer (some ⟨w.heap.size + 1, 0, none⟩), .int .i32 (q0).v, .pointer (some ⟨w.heap.size + 1, 1, none⟩), .int .i32 (q1).v, .int .i32 (mulqW (q0) (q1)).v, .func (.func 70) #[.agg #[.iface 59 (.pointer (some p))]] #[], .pointer (some ⟨w.heap.size + 1, 2, none⟩), .int .i32 (q2).v, .pointer (some ⟨w.heap.size + 1, 3, none⟩), .int .i32 (q3).v, .int .i32 (mulqW (q2) (q3)).v, undef, .int .i32 (moreW (mulqW (q0) (q1)) [mulqW (q2) (q3)]).v, .agg #[.iface 59 (.pointer (some p))], .pointer (some ⟨w.heap.size + 1 + 1, 1, none⟩), .int .i32 (a1).v, .int .i32 (downW (a1) (1)).v, undef, .int .i32 (lessW (moreW (mulqW (q0) (q1)) [mulqW (q2) (q3)]) [downW (a1) (1)]).v, .int .i32 (lessW (moreW (mulqW (q0) (q1)) [mulqW (q2) (q3)]) [downW (a1) (1)]).v] [fun _ => undef, fun _ => undef, fun _ => undef, fun _ => undef, fun _ => undef, fun _ => undef, fun _ => undef, fun _ => undef, fun _ => undef, fun _ => undef, fun _ => undef, fun _ => undef, fun _ => undef, fun _ => undef, fun g => .slice (some ⟨g, 0, none⟩) 1 1, fun _ => undef, fun _ => undef, fun _ => undef, fun _ => undef, fun _ => undef, fun g => .slice (some ⟨g, 0, none⟩) 1 1, fun _ => undef, fun _ => undef] [.val, .val, .val, .val, .val, .val, .val, .val, .val, .val, .val, .val, .val, .val, .new 21 [.int .i32 (mulqW (q2) (q3)).v], .val, .val, .val, .val, .val, .new 21 [.int .i32 (downW (a1) (1)).v], .val, .val] [(27, [.int .i32 0, .int .i32 0, .int .i32 0, .int .i32 0])] [w.heap.size + 1 + 1 + 1] [] (fun _ => Sd wz1 [w.heap.size + 1 + 1 + 1] CL) (Fd wz1 [w.heap.size + 1 + 1 + 1] [w.heap.size, w.heap.size + 1, w.heap.size + 1 + 1])) (Reg.good_of _ 153 (by kernel_rfl) (by kernel_rfl)) (stands_d _ wz1 [w.heap.size + 1 + 1 + 1] [w.heap.size, w.heap.size + 1, w.heap.size + 1 + 1] CL rfl rfl rfl hU0 hlt0) (by kernel_rfl) HS0 (hold_of (by kernel_rfl) ?holdwz2) (ne_of (by kernel_rfl) ?hnewz2) (Reg.steps_of _ rfl ⟨?_, ?_, ?_, ?_, ?_, ?_, ?_, ?_, ?_, ?_, ?_, ?_, ?_, ?_, ?_, ?_, ?_, ?_, ?_, ?_, ?_, ?_, ?_, trivial⟩) ?hendwz2
    case holdwz2 =>
      intro k T c hk
      cases k with
      | zero => simp only [List.getElem?_cons_zero, Option.some.injEq, Prod.mk.injEq] at hk; obtain ⟨rfl, rfl⟩ := hk; exact ⟨mo1_0, ⟨by simp; try omega, .inl (by simp)⟩⟩
      | succ k =>
        simp at hk
    case hnewz2 => intro i j hi hj hne; simp at hi hj; omega
    case hendwz2 =>
      intro wz2 γ hSz hBz hnez hOz
      replace hSz : Sd wz1 [w.heap.size + 1 + 1 + 1] CL wz2 := hSz
      have nb14 : Blk wz2 (γ 14) 21 [.int .i32 (mulqW (q2) (q3)).v] := (hBz 14 21 [.int .i32 (mulqW (q2) (q3)).v] (by kernel_rfl) [.int .i32 (mulqW (q2) (q3)).v] (by kernel_rfl)).1
      have nf14 : Fd wz1 [w.heap.size + 1 + 1 + 1] [w.heap.size, w.heap.size + 1, w.heap.size + 1 + 1] wz2 (γ 14) := (hBz 14 21 [.int .i32 (mulqW (q2) (q3)).v] (by kernel_rfl) [.int .i32 (mulqW (q2) (q3)).v] (by kernel_rfl)).2.1
      have nb20 : Blk wz2 (γ 20) 21 [.int .i32 (downW (a1) (1)).v] := (hBz 20 21 [.int .i32 (downW (a1) (1)).v] (by kernel_rfl) [.int .i32 (downW (a1) (1)).v] (by kernel_rfl)).1
      have nf20 : Fd wz1 [w.heap.size + 1 + 1 + 1] [w.heap.size, w.heap.size + 1, w.heap.size + 1 + 1] wz2 (γ 20) := (hBz 20 21 [.int .i32 (downW (a1) (1)).v] (by kernel_rfl) [.int .i32 (downW (a1) (1)).v] (by kernel_rfl)).2.1
      have ob0 : Blk wz2 (w.heap.size + 1 + 1 + 1) 27 [.int .i32 0, .int .i32 0, .int .i32 0, .int .i32 0] := by have h := (hBz 23 27 [.int .i32 0, .int .i32 0, .int .i32 0, .int .i32 0] (by kernel_rfl) [.int .i32 0, .int .i32 0, .int .i32 0, .int .i32 0] (by kernel_rfl)).1; rw [hOz 23 (Nat.le_trans (Nat.le_of_eq (by kernel_rfl : _ = 23)) (by decide : 23 ≤ 23))] at h; exact h
      refine end_of [(9, .int .i32 (lessW (moreW (mulqW (q0) (q1)) [mulqW (q2) (q3)]) [downW (a1) (1)]).v), (32, .agg #[.iface 59 (.pointer (some p))]), (33, .agg #[.iface 59 (.pointer (some p))]), (34, .func (.func 70) #[.agg #[.iface 59 (.pointer (some p))]] #[]), (35, .pointer (some ⟨w.heap.size + 1, 0, none⟩)), (36, .int .i32 (q0).v), (37, .pointer (some ⟨w.heap.size + 1, 1, none⟩)), (38, .int .i32 (q1).v), (39, .int .i32 (mulqW (q0) (q1)).v), (40, .func (.func 70) #[.agg #[.iface 59 (.pointer (some p))]] #[]), (41, .pointer (some ⟨w.heap.size + 1, 2, none⟩)), (42, .int .i32 (q2).v), (43, .pointer (some ⟨w.heap.size + 1, 3, none⟩)), (44, .int .i32 (q3).v), (45, .int .i32 (mulqW (q2) (q3)).v), (46, .slice (some ⟨γ 14, 0, none⟩) 1 1), (47, .int .i32 (moreW (mulqW (q0) (q1)) [mulqW (q2) (q3)]).v), (48, .agg #[.iface 59 (.pointer (some p))]), (49, .pointer (some ⟨w.heap.size + 1 + 1, 1, none⟩)), (50, .int .i32 (a1).v), (51, .int .i32 (downW (a1) (1)).v), (52, .slice (some ⟨γ 20, 0, none⟩) 1 1), (53, .int .i32 (lessW (moreW (mulqW (q0) (q1)) [mulqW (q2) (q3)]) [downW (a1) (1)]).v)] (by kernel_rfl) ?_
      clear hBz hnez hOz HS0 hU0
      simp only [Reg.of, List.foldl_cons, List.foldl_nil, List.setIfInBounds_toArray, List.set_cons_zero, List.set_cons_succ]
      generalize γ 14 = b14 at *
      generalize γ 20 = b20 at *
      have HC2 := hide (HC1.out.trans hSz.chg (D := []) (by simp; try omega))
      have y2_0 : wz2.cell? ⟨w.heap.size, 0, none⟩ = some (.iface 59 (.pointer (some p))) := hSz.at_ 0 _ _ (by rw [hCL]; rfl)
      have y2_1 : wz2.cell? ⟨w.heap.size + 1, 0, none⟩ = some (.int .i32 (q0).v) := hSz.at_ 1 _ _ (by rw [hCL]; rfl)
      have y2_2 : wz2.cell? ⟨w.heap.size + 1, 1, none⟩ = some (.int .i32 (q1).v) := hSz.at_ 2 _ _ (by rw [hCL]; rfl)
      have y2_3 : wz2.cell? ⟨w.heap.size + 1, 2, none⟩ = some (.int .i32 (q2).v) := hSz.at_ 3 _ _ (by rw [hCL]; rfl)
      have y2_4 : wz2.cell? ⟨w.heap.size + 1, 3, none⟩ = some (.int .i32 (q3).v) := hSz.at_ 4 _ _ (by rw [hCL]; rfl)
      have y2_5 : wz2.cell? ⟨w.heap.size + 1 + 1, 0, none⟩ = some (.int .i32 (a0).v) := hSz.at_ 5 _ _ (by rw [hCL]; rfl)
      have y2_6 : wz2.cell? ⟨w.heap.size + 1 + 1, 1, none⟩ = some (.int .i32 (a1).v) := hSz.at_ 6 _ _ (by rw [hCL]; rfl)
      have y2_7 : wz2.cell? ⟨w.heap.size + 1 + 1, 2, none⟩ = some (.int .i32 (a2).v) := hSz.at_ 7 _ _ (by rw [hCL]; rfl)
      clear hSz hCL hlt0 CL y1_0 y1_1 y1_2 y1_3 y1_4 y1_5 y1_6 y1_7 HC1 mo1_0
      have mo2_0 := ob0
      clear ob0
      clear nb14 nf14
      clear nb20 nf20
      go_wp2_with fail
      obtain ⟨CL, hCL⟩ : ∃ l : List (Addr × Value), l = [(⟨w.heap.size, 0, none⟩, .iface 59 (.pointer (some p))), (⟨w.heap.size + 1, 0, none⟩, .int .i32 (q0).v), (⟨w.heap.size + 1, 1, none⟩, .int .i32 (q1).v), (⟨w.heap.size + 1, 2, none⟩, .int .i32 (q2).v), (⟨w.heap.size + 1, 3, none⟩, .int .i32 (q3).v), (⟨w.heap.size + 1 + 1, 0, none⟩, .int .i32 (a0).v), (⟨w.heap.size + 1 + 1, 1, none⟩, .int .i32 (a1).v), (⟨w.heap.size + 1 + 1, 2, none⟩, .int .i32 (a2).v)] := ⟨_, rfl⟩
      have HS0 : Sd wz2 [w.heap.size + 1 + 1 + 1] CL wz2.drew := ⟨(Chg.refl wz2 _).drew, by rw [hCL]; simp only [List.forall_mem_cons]; exact ⟨y2_0, y2_1, y2_2, y2_3, y2_4, y2_5, y2_6, y2_7, by simp⟩⟩
      have hU0 : ∀ p ∈ CL, p.1.block ∈ ([w.heap.size, w.heap.size + 1, w.heap.size + 1 + 1] : List Nat) := by rw [hCL]; simp only [List.forall_mem_cons]; exact ⟨by simp, by simp, by simp, by simp, by simp, by simp, by simp, by simp, by simp⟩
      have hlt0 : ∀ u ∈ ([w.heap.size, w.heap.size + 1, w.heap.size + 1 + 1] : List Nat), u < wz2.heap.size := by simp only [List.forall_mem_cons]; exact ⟨World.block_lt_of_cell? _ _ y2_0, World.block_lt_of_cell? _ _ y2_1, World.block_lt_of_cell? _ _ y2_5, by simp⟩
      refine Reg.wp_region (Reg.of 23 _ _ [.agg #[.iface 59 (.pointer (some p))], .pointer (some ⟨w.heap.size, 0, none⟩), .iface 59 (.pointer (some p)), .int .i32 (kW (536870912)).v, .func (.func 70) #[.agg #[.iface 59 (.pointer (some p))]] #[], .pointer (some ⟨w.heap.size + 1, 1, none⟩), .int .i32 (q1).v, .pointer (some ⟨w.heap.size + 1, 1, none⟩), .int .i32 (q1).v, .int .i32 (mulqW (q1) (q1)).v, .func (.func 70) #[.agg #[.iface 59 (.pointer (some p))]] #[], .pointer (some ⟨w.heap.size + 1, 2, none⟩), .int .i32 (q2).v, .pointer (some ⟨w.heap.size + 1, 2, none⟩), .int .i32 (q2).v, .int .i32 (mulqW (q2) (q2)).v, .agg #[.iface 59 (.pointer (some p))], .pointer (some ⟨w.heap.size + 1 + 1, 2, none⟩), .int .i32 (a2).v, .int .i32 (downW (a2) (1)).v, undef, .int .i32 (lessW (kW (536870912)) [mulqW (q1) (q1), mulqW (q2) (q2), downW (a2) (1)]).v, .int .i32 (lessW (kW (536870912)) [mulqW (q1) (q1), mulqW (q2) (q2), downW (a2) (1)]).v] [fun _ => undef, fun _ => undef, fun _ => undef, fun _ => undef, fun _ => undef, fun _ => undef, fun _ => undef, fun _ => undef, fun _ => undef, fun _ => undef, fun _ => undef, fun _ => undef, fun _ => undef, fun _ => undef, fun _ => undef, fun _ => undef, fun _ => undef, fun _ => undef, fun _ => undef, fun _ => undef, fun g => .slice (some ⟨g, 0, none⟩) 3 3, fun _ => undef, fun _ => undef] [.val, .val, .val, .val, .val, .val, .val, .val, .val, .val, .val, .val, .val, .val, .val, .val, .val, .val, .val, .val, .new 21 [.int .i32 (mulqW (q1) (q1)).v, .int .i32 (mulqW (q2) (q2)).v, .int .i32 (downW (a2) (1)).v], .val, .val] [(27, [.int .i32 0, .int .i32 0, .int .i32 0, .int .i32 0])] [w.heap.size + 1 + 1 + 1] [] (fun _ => Sd wz2 [w.heap.size + 1 + 1 + 1] CL) (Fd wz2 [w.heap.size + 1 + 1 + 1] [w.heap.size, w.heap.size + 1, w.heap.size + 1 + 1])) (Reg.good_of _ 153 (by kernel_rfl) (by kernel_rfl)) (stands_d _ wz2 [w.heap.size + 1 + 1 + 1] [w.heap.size, w.heap.size + 1, w.heap.size + 1 + 1] CL rfl rfl rfl hU0 hlt0) (by kernel_rfl) HS0 (hold_of (by kernel_rfl) ?holdwz3) (ne_of (by kernel_rfl) ?hnewz3) (Reg.steps_of _ rfl ⟨?_, ?_, ?_, ?_, ?_, ?_, ?_, ?_, ?_, ?_, ?_, ?_, ?_, ?_, ?_, ?_, ?_, ?_, ?_, ?_, ?_, ?_, ?_, trivial⟩) ?hendwz3
      case holdwz3 =>
        intro k T c hk
        cases k with
        | zero => simp only [List.getElem?_cons_zero, Option.some.injEq, Prod.mk.injEq] at hk; obtain ⟨rfl, rfl⟩ := hk; exact ⟨mo2_0, ⟨by simp; try omega, .inl (by simp)⟩⟩
        | succ k =>
          simp at hk
      case hnewz3 => intro i j hi hj hne; simp at hi hj; omega
      case hendwz3 =>
        intro wz3 γ hSz hBz hnez hOz
        replace hSz : Sd wz2 [w.heap.size + 1 + 1 + 1] CL wz3 := hSz
        have nb20 : Blk wz3 (γ 20) 21 [.int .i32 (mulqW (q1) (q1)).v, .int .i32 (mulqW (q2) (q2)).v, .int .i32 (downW (a2) (1)).v] := (hBz 20 21 [.int .i32 (mulqW (q1) (q1)).v, .int .i32 (mulqW (q2) (q2)).v, .int .i32 (downW (a2) (1)).v] (by kernel_rfl) [.int .i32 (mulqW (q1) (q1)).v, .int .i32 (mulqW (q2) (q2)).v, .int .i32 (downW (a2) (1)).v] (by kernel_rfl)).1
        have nf20 : Fd wz2 [w.heap.size + 1 + 1 + 1] [w.heap.size, w.heap.size + 1, w.heap.size + 1 + 1] wz3 (γ 20) := (hBz 20 21 [.int .i32 (mulqW (q1) (q1)).v, .int .i32 (mulqW (q2) (q2)).v, .int .i32 (downW (a2) (1)).v] (by kernel_rfl) [.int .i32 (mulqW (q1) (q1)).v, .int .i32 (mulqW (q2) (q2)).v, .int .i32 (downW (a2) (1)).v] (by kernel_rfl)).2.1
        have ob0 : Blk wz3 (w.heap.size + 1 + 1 + 1) 27 [.int .i32 0, .int .i32 0, .int .i32 0, .int .i32 0] := by have h := (hBz 23 27 [.int .i32 0, .int .i32 0, .int .i32 0, .int .i32 0] (by kernel_rfl) [.int .i32 0, .int .i32 0, .int .i32 0, .int .i32 0] (by kernel_rfl)).1; rw [hOz 23 (Nat.le_trans (Nat.le_of_eq (by kernel_rfl : _ = 23)) (by decide : 23 ≤ 23))] at h; exact h
        refine end_of [(10, .int .i32 (lessW (kW (536870912)) [mulqW (q1) (q1), mulqW (q2) (q2), downW (a2) (1)]).v), (54, .agg #[.iface 59 (.pointer (some p))]), (55, .pointer (some ⟨w.heap.size, 0, none⟩)), (56, .iface 59 (.pointer (some p))), (57, .int .i32 (kW (536870912)).v), (58, .func (.func 70) #[.agg #[.iface 59 (.pointer (some p))]] #[]), (59, .pointer (some ⟨w.heap.size + 1, 1, none⟩)), (60, .int .i32 (q1).v), (61, .pointer (some ⟨w.heap.size + 1, 1, none⟩)), (62, .int .i32 (q1).v), (63, .int .i32 (mulqW (q1) (q1)).v), (64, .func (.func 70) #[.agg #[.iface 59 (.pointer (some p))]] #[]), (65, .pointer (some ⟨w.heap.size + 1, 2, none⟩)), (66, .int .i32 (q2).v), (67, .pointer (some ⟨w.heap.size + 1, 2, none⟩)), (68, .int .i32 (q2).v), (69, .int .i32 (mulqW (q2) (q2)).v), (70, .agg #[.iface 59 (.pointer (some p))]), (71, .pointer (some ⟨w.heap.size + 1 + 1, 2, none⟩)), (72, .int .i32 (a2).v), (73, .int .i32 (downW (a2) (1)).v), (74, .slice (some ⟨γ 20, 0, none⟩) 3 3), (75, .int .i32 (lessW (kW (536870912)) [mulqW (q1) (q1), mulqW (q2) (q2), downW (a2) (1)]).v)] (by kernel_rfl) ?_
        clear hBz hnez hOz HS0 hU0
        simp only [Reg.of, List.foldl_cons, List.foldl_nil, List.setIfInBounds_toArray, List.set_cons_zero, List.set_cons_succ]
        generalize γ 20 = b20 at *
        have HC3 := hide (HC2.out.trans hSz.chg (D := []) (by simp; try omega))
        have y3_0 : wz3.cell? ⟨w.heap.size, 0, none⟩ = some (.iface 59 (.pointer (some p))) := hSz.at_ 0 _ _ (by rw [hCL]; rfl)
        have y3_1 : wz3.cell? ⟨w.heap.size + 1, 0, none⟩ = some (.int .i32 (q0).v) := hSz.at_ 1 _ _ (by rw [hCL]; rfl)
        have y3_2 : wz3.cell? ⟨w.heap.size + 1, 1, none⟩ = some (.int .i32 (q1).v) := hSz.at_ 2 _ _ (by rw [hCL]; rfl)
        have y3_3 : wz3.cell? ⟨w.heap.size + 1, 2, none⟩ = some (.int .i32 (q2).v) := hSz.at_ 3 _ _ (by rw [hCL]; rfl)
        have y3_4 : wz3.cell? ⟨w.heap.size + 1, 3, none⟩ = some (.int .i32 (q3).v) := hSz.at_ 4 _ _ (by rw [hCL]; rfl)
        have y3_5 : wz3.cell? ⟨w.heap.size + 1 + 1, 0, none⟩ = some (.int .i32 (a0).v) := hSz.at_ 5 _ _ (by rw [hCL]; rfl)
        have y3_6 : wz3.cell? ⟨w.heap.size + 1 + 1, 1, none⟩ = some (.int .i32 (a1).v) := hSz.at_ 6 _ _ (by rw [hCL]; rfl)
        have y3_7 : wz3.cell? ⟨w.heap.size + 1 + 1, 2, none⟩ = some (.int .i32 (a2).v) := hSz.at_ 7 _ _ (by rw [hCL]; rfl)
        clear hSz hCL hlt0 CL y2_0 y2_1 y2_2 y2_3 y2_4 y2_5 y2_6 y2_7 HC2 mo2_0
        have mo3_0 := ob0
        clear ob0
        clear nb20 nf20
        go_wp2_with fail
        obtain ⟨CL, hCL⟩ : ∃ l : List (Addr × Value), l = [(⟨w.heap.size, 0, none⟩, .iface 59 (.pointer (some p))), (⟨w.heap.size + 1, 0, none⟩, .int .i32 (q0).v), (⟨w.heap.size + 1, 1, none⟩, .int .i32 (q1).v), (⟨w.heap.size + 1, 2, none⟩, .int .i32 (q2).v), (⟨w.heap.size + 1, 3, none⟩, .int .i32 (q3).v), (⟨w.heap.size + 1 + 1, 0, none⟩, .int .i32 (a0).v), (⟨w.heap.size + 1 + 1, 1, none⟩, .int .i32 (a1).v), (⟨w.heap.size + 1 + 1, 2, none⟩, .int .i32 (a2).v)] := ⟨_, rfl⟩
        have HS0 : Sd wz3 [w.heap.size + 1 + 1 + 1] CL wz3.drew := ⟨(Chg.refl wz3 _).drew, by rw [hCL]; simp only [List.forall_mem_cons]; exact ⟨y3_0, y3_1, y3_2, y3_3, y3_4, y3_5, y3_6, y3_7, by simp⟩⟩
        have hU0 : ∀ p ∈ CL, p.1.block ∈ ([w.heap.size, w.heap.size + 1, w.heap.size + 1 + 1] : List Nat) := by rw [hCL]; simp only [List.forall_mem_cons]; exact ⟨by simp, by simp, by simp, by simp, by simp, by simp, by simp, by simp, by simp⟩
        have hlt0 : ∀ u ∈ ([w.heap.size, w.heap.size + 1, w.heap.size + 1 + 1] : List Nat), u < wz3.heap.size := by simp only [List.forall_mem_cons]; exact ⟨World.block_lt_of_cell? _ _ y3_0, World.block_lt_of_cell? _ _ y3_1, World.block_lt_of_cell? _ _ y3_5, by simp⟩
        refine Reg.wp_region (Reg.of 78 _ _ [.agg #[.iface 59 (.pointer (some p))], .agg #[.iface 59 (.pointer (some p))], .func (.func 70) #[.agg #[.iface 59 (.pointer (some p))]] #[], .pointer (some ⟨w.heap.size + 1, 1, none⟩), .int .i32 (q1).v, .int .i32 (pullF1 q0 q1 q2 q3 a1).v, .int .i32 (mulqW (q1) (pullF1 q0 q1 q2 q3 a1)).v, .func (.func 70) #[.agg #[.iface 59 (.pointer (some p))]] #[], .pointer (some ⟨w.heap.size + 1, 2, none⟩), .int .i32 (q2).v, .int .i32 (pullF0 q0 q1 q2 q3 a0).v, .int .i32 (mulqW (q2) (pullF0 q0 q1 q2 q3 a0)).v, undef, .int .i32 (lessW (mulqW (q1) (pullF1 q0 q1 q2 q3 a1)) [mulqW (q2) (pullF0 q0 q1 q2 q3 a0)]).v, .int .i32 (downW (lessW (mulqW (q1) (pullF1 q0 q1 q2 q3 a1)) [mulqW (q2) (pullF0 q0 q1 q2 q3 a0)]) (1)).v, .agg #[.iface 59 (.pointer (some p))], .agg #[.iface 59 (.pointer (some p))], .agg #[.iface 59 (.pointer (some p))], .func (.func 70) #[.agg #[.iface 59 (.pointer (some p))]] #[], .pointer (some ⟨w.heap.size + 1, 3, none⟩), .int .i32 (q3).v, .int .i32 (pullF0 q0 q1 q2 q3 a0).v, .int .i32 (mulqW (q3) (pullF0 q0 q1 q2 q3 a0)).v, .func (.func 70) #[.agg #[.iface 59 (.pointer (some p))]] #[], .pointer (some ⟨w.heap.size + 1, 0, none⟩), .int .i32 (q0).v, .int .i32 (pullF1 q0 q1 q2 q3 a1).v, .int .i32 (mulqW (q0) (pullF1 q0 q1 q2 q3 a1)).v, undef, .int .i32 (moreW (mulqW (q3) (pullF0 q0 q1 q2 q3 a0)) [mulqW (q0) (pullF1 q0 q1 q2 q3 a1)]).v, .int .i32 (downW (moreW (mulqW (q3) (pullF0 q0 q1 q2 q3 a0)) [mulqW (q0) (pullF1 q0 q1 q2 q3 a1)]) (1)).v, .func (.func 70) #[.agg #[.iface 59 (.pointer (some p))]] #[], .pointer (some ⟨w.heap.size + 1, 1, none⟩), .int .i32 (q1).v, .int .i32 (pullF2 q1 q2 a2).v, .int .i32 (mulqW (q1) (pullF2 q1 q2 a2)).v, undef, .int .i32 (lessW (downW (moreW (mulqW (q3) (pullF0 q0 q1 q2 q3 a0)) [mulqW (q0) (pullF1 q0 q1 q2 q3 a1)]) (1)) [mulqW (q1) (pullF2 q1 q2 a2)]).v, .agg #[.iface 59 (.pointer (some p))], .agg #[.iface 59 (.pointer (some p))], .agg #[.iface 59 (.pointer (some p))], .func (.func 70) #[.agg #[.iface 59 (.pointer (some p))]] #[], .pointer (some ⟨w.heap.size + 1, 3, none⟩), .int .i32 (q3).v, .int .i32 (pullF1 q0 q1 q2 q3 a1).v, .int .i32 (mulqW (q3) (pullF1 q0 q1 q2 q3 a1)).v, .func (.func 70) #[.agg #[.iface 59 (.pointer (some p))]] #[], .pointer (some ⟨w.heap.size + 1, 0, none⟩), .int .i32 (q0).v, .int .i32 (pullF0 q0 q1 q2 q3 a0).v, .int .i32 (mulqW (q0) (pullF0 q0 q1 q2 q3 a0)).v, undef, .int .i32 (lessW (mulqW (q3) (pullF1 q0 q1 q2 q3 a1)) [mulqW (q0) (pullF0 q0 q1 q2 q3 a0)]).v, .int .i32 (downW (lessW (mulqW (q3) (pullF1 q0 q1 q2 q3 a1)) [mulqW (q0) (pullF0 q0 q1 q2 q3 a0)]) (1)).v, .func (.func 70) #[.agg #[.iface 59 (.pointer (some p))]] #[], .pointer (some ⟨w.heap.size + 1, 2, none⟩), .int .i32 (q2).v, .int .i32 (pullF2 q1 q2 a2).v, .int .i32 (mulqW (q2) (pullF2 q1 q2 a2)).v, undef, .int .i32 (lessW (downW (lessW (mulqW (q3) (pullF1 q0 q1 q2 q3 a1)) [mulqW (q0) (pullF0 q0 q1 q2 q3 a0)]) (1)) [mulqW (q2) (pullF2 q1 q2 a2)]).v, .agg #[.iface 59 (.pointer (some p))], .agg #[.iface 59 (.pointer (some p))], .func (.func 70) #[.agg #[.iface 59 (.pointer (some p))]] #[], .pointer (some ⟨w.heap.size + 1, 1, none⟩), .int .i32 (q1).v, .int .i32 (pullF0 q0 q1 q2 q3 a0).v, .int .i32 (mulqW (q1) (pullF0 q0 q1 q2 q3 a0)).v, .func (.func 70) #[.agg #[.iface 59 (.pointer (some p))]] #[], .pointer (some ⟨w.heap.size + 1, 2, none⟩), .int .i32 (q2).v, .int .i32 (pullF1 q0 q1 q2 q3 a1).v, .int .i32 (mulqW (q2) (pullF1 q0 q1 q2 q3 a1)).v, undef, .int .i32 (moreW (mulqW (q1) (pullF0 q0 q1 q2 q3 a0)) [mulqW (q2) (pullF1 q0 q1 q2 q3 a1)]).v, .int .i32 (downW (moreW (mulqW (q1) (pullF0 q0 q1 q2 q3 a0)) [mulqW (q2) (pullF1 q0 q1 q2 q3 a1)]) (1)).v, .agg #[.int .i32 (downW (lessW (mulqW (q1) (pullF1 q0 q1 q2 q3 a1)) [mulqW (q2) (pullF0 q0 q1 q2 q3 a0)]) (1)).v, .int .i32 (lessW (downW (moreW (mulqW (q3) (pullF0 q0 q1 q2 q3 a0)) [mulqW (q0) (pullF1 q0 q1 q2 q3 a1)]) (1)) [mulqW (q1) (pullF2 q1 q2 a2)]).v, .int .i32 (lessW (downW (lessW (mulqW (q3) (pullF1 q0 q1 q2 q3 a1)) [mulqW (q0) (pullF0 q0 q1 q2 q3 a0)]) (1)) [mulqW (q2) (pullF2 q1 q2 a2)]).v, .int .i32 (downW (moreW (mulqW (q1) (pullF0 q0 q1 q2 q3 a0)) [mulqW (q2) (pullF1 q0 q1 q2 q3 a1)]) (1)).v], undef] [fun _ => undef, fun _ => undef, fun _ => undef, fun _ => undef, fun _ => undef, fun _ => undef, fun _ => undef, fun _ => undef, fun _ => undef, fun _ => undef, fun _ => undef, fun _ => undef, fun g => .slice (some ⟨g, 0, none⟩) 1 1, fun _ => undef, fun _ => undef, fun _ => undef, fun _ => undef, fun _ => undef, fun _ => undef, fun _ => undef, fun _ => undef, fun _ => undef, fun _ => undef, fun _ => undef, fun _ => undef, fun _ => undef, fun _ => undef, fun _ => undef, fun g => .slice (some ⟨g, 0, none⟩) 1 1, fun _ => undef, fun _ => undef, fun _ => undef, fun _ => undef, fun _ => undef, fun _ => undef, fun _ => undef, fun g => .slice (some ⟨g, 0, none⟩) 1 1, fun _ => undef, fun _ => undef, fun _ => undef, fun _ => undef, fun _ => undef, fun _ => undef, fun _ => undef, fun _ => undef, fun _ => undef, fun _ => undef, fun _ => undef, fun _ => undef, fun _ => undef, fun _ => undef, fun g => .slice (some ⟨g, 0, none⟩) 1 1, fun _ => undef, fun _ => undef, fun _ => undef, fun _ => undef, fun _ => undef, fun _ => undef, fun _ => undef, fun g => .slice (some ⟨g, 0, none⟩) 1 1, fun _ => undef, fun _ => undef, fun _ => undef, fun _ => undef, fun _ => undef, fun _ => undef, fun _ => undef, fun _ => undef, fun _ => undef, fun _ => undef, fun _ => undef, fun _ => undef, fun _ => undef, fun g => .slice (some ⟨g, 0, none⟩) 1 1, fun _ => undef, fun _ => undef, fun _ => undef, fun _ => undef] [.val, .val, .val, .val, .val, .val, .val, .val, .val, .val, .val, .val, .new 21 [.int .i32 (mulqW (q2) (pullF0 q0 q1 q2 q3 a0)).v], .val, .val, .val, .val, .val, .val, .val, .val, .val, .val, .val, .val, .val, .val, .val, .new 21 [.int .i32 (mulqW (q0) (pullF1 q0 q1 q2 q3 a1)).v], .val, .val, .val, .val, .val, .val, .val, .new 21 [.int .i32 (mulqW (q1) (pullF2 q1 q2 a2)).v], .val, .val, .val, .val, .val, .val, .val, .val, .val, .val, .val, .val, .val, .val, .new 21 [.int .i32 (mulqW (q0) (pullF0 q0 q1 q2 q3 a0)).v], .val, .val, .val, .val, .val, .val, .val, .new 21 [.int .i32 (mulqW (q2) (pullF2 q1 q2 a2)).v], .val, .val, .val, .val, .val, .val, .val, .val, .val, .val, .val, .val, .val, .new 21 [.int .i32 (mulqW (q2) (pullF1 q0 q1 q2 q3 a1)).v], .val, .val, .val, .put 78 [.int .i32 (downW (lessW (mulqW (q1) (pullF1 q0 q1 q2 q3 a1)) [mulqW (q2) (pullF0 q0 q1 q2 q3 a0)]) (1)).v, .int .i32 (lessW (downW (moreW (mulqW (q3) (pullF0 q0 q1 q2 q3 a0)) [mulqW (q0) (pullF1 q0 q1 q2 q3 a1)]) (1)) [mulqW (q1) (pullF2 q1 q2 a2)]).v, .int .i32 (lessW (downW (lessW (mulqW (q3) (pullF1 q0 q1 q2 q3 a1)) [mulqW (q0) (pullF0 q0 q1 q2 q3 a0)]) (1)) [mulqW (q2) (pullF2 q1 q2 a2)]).v, .int .i32 (downW (moreW (mulqW (q1) (pullF0 q0 q1 q2 q3 a0)) [mulqW (q2) (pullF1 q0 q1 q2 q3 a1)]) (1)).v]] [(27, [.int .i32 0, .int .i32 0, .int .i32 0, .int .i32 0])] [w.heap.size + 1 + 1 + 1] [] (fun _ => Sd wz3 [w.heap.size + 1 + 1 + 1] CL) (Fd wz3 [w.heap.size + 1 + 1 + 1] [w.heap.size, w.heap.size + 1, w.heap.size + 1 + 1])) (Reg.good_of _ 153 (by kernel_rfl) (by kernel_rfl)) (stands_d _ wz3 [w.heap.size + 1 + 1 + 1] [w.heap.size, w.heap.size + 1, w.heap.size + 1 + 1] CL rfl rfl rfl hU0 hlt0) (by kernel_rfl) HS0 (hold_of (by kernel_rfl) ?holdwz4) (ne_of (by kernel_rfl) ?hnewz4) (Reg.steps_of _ rfl ⟨?_, ?_, ?_, ?_, ?_, ?_, ?_, ?_, ?_, ?_, ?_, ?_, ?_, ?_, ?_, ?_, ?_, ?_, ?_, ?_, ?_, ?_, ?_, ?_, ?_, ?_, ?_, ?_, ?_, ?_, ?_, ?_, ?_, ?_, ?_, ?_, ?_, ?_, ?_, ?_, ?_, ?_, ?_, ?_, ?_, ?_, ?_, ?_, ?_, ?_, ?_, ?_, ?_, ?_, ?_, ?_, ?_, ?_, ?_, ?_, ?_, ?_, ?_, ?_, ?_, ?_, ?_, ?_, ?_, ?_, ?_, ?_, ?_, ?_, ?_, ?_, ?_, ?_, trivial⟩) ?hendwz4
        case holdwz4 =>
          intro k T c hk
          cases k with
          | zero => simp only [List.getElem?_cons_zero, Option.some.injEq, Prod.mk.injEq] at hk; obtain ⟨rfl, rfl⟩ := hk; exact ⟨mo3_0, ⟨by simp; try omega, .inl (by simp)⟩⟩
          | succ k =>
            simp at hk
        case hnewz4 => intro i j hi hj hne; simp at hi hj; omega
        case hendwz4 =>
          intro wz4 γ hSz hBz hnez hOz
          replace hSz : Sd wz3 [w.heap.size + 1 + 1 + 1] CL wz4 := hSz
          have nb12 : Blk wz4 (γ 12) 21 [.int .i32 (mulqW (q2) (pullF0 q0 q1 q2 q3 a0)).v] := (hBz 12 21 [.int .i32 (mulqW (q2) (pullF0 q0 q1 q2 q3 a0)).v] (by kernel_rfl) [.int .i32 (mulqW (q2) (pullF0 q0 q1 q2 q3 a0)).v] (by kernel_rfl)).1
          have nf12 : Fd wz3 [w.heap.size + 1 + 1 + 1] [w.heap.size, w.heap.size + 1, w.heap.size + 1 + 1] wz4 (γ 12) := (hBz 12 21 [.int .i32 (mulqW (q2) (pullF0 q0 q1 q2 q3 a0)).v] (by kernel_rfl) [.int .i32 (mulqW (q2) (pullF0 q0 q1 q2 q3 a0)).v] (by kernel_rfl)).2.1
          have nb28 : Blk wz4 (γ 28) 21 [.int .i32 (mulqW (q0) (pullF1 q0 q1 q2 q3 a1)).v] := (hBz 28 21 [.int .i32 (mulqW (q0) (pullF1 q0 q1 q2 q3 a1)).v] (by kernel_rfl) [.int .i32 (mulqW (q0) (pullF1 q0 q1 q2 q3 a1)).v] (by kernel_rfl)).1
          have nf28 : Fd wz3 [w.heap.size + 1 + 1 + 1] [w.heap.size, w.heap.size + 1, w.heap.size + 1 + 1] wz4 (γ 28) := (hBz 28 21 [.int .i32 (mulqW (q0) (pullF1 q0 q1 q2 q3 a1)).v] (by kernel_rfl) [.int .i32 (mulqW (q0) (pullF1 q0 q1 q2 q3 a1)).v] (by kernel_rfl)).2.1
          have nb36 : Blk wz4 (γ 36) 21 [.int .i32 (mulqW (q1) (pullF2 q1 q2 a2)).v] := (hBz 36 21 [.int .i32 (mulqW (q1) (pullF2 q1 q2 a2)).v] (by kernel_rfl) [.int .i32 (mulqW (q1) (pullF2 q1 q2 a2)).v] (by kernel_rfl)).1
          have nf36 : Fd wz3 [w.heap.size + 1 + 1 + 1] [w.heap.size, w.heap.size + 1, w.heap.size + 1 + 1] wz4 (γ 36) := (hBz 36 21 [.int .i32 (mulqW (q1) (pullF2 q1 q2 a2)).v] (by kernel_rfl) [.int .i32 (mulqW (q1) (pullF2 q1 q2 a2)).v] (by kernel_rfl)).2.1
          have nb51 : Blk wz4 (γ 51) 21 [.int .i32 (mulqW (q0) (pullF0 q0 q1 q2 q3 a0)).v] := (hBz 51 21 [.int .i32 (mulqW (q0) (pullF0 q0 q1 q2 q3 a0)).v] (by kernel_rfl) [.int .i32 (mulqW (q0) (pullF0 q0 q1 q2 q3 a0)).v] (by kernel_rfl)).1
          have nf51 : Fd wz3 [w.heap.size + 1 + 1 + 1] [w.heap.size, w.heap.size + 1, w.heap.size + 1 + 1] wz4 (γ 51) := (hBz 51 21 [.int .i32 (mulqW (q0) (pullF0 q0 q1 q2 q3 a0)).v] (by kernel_rfl) [.int .i32 (mulqW (q0) (pullF0 q0 q1 q2 q3 a0)).v] (by kernel_rfl)).2.1
          have nb59 : Blk wz4 (γ 59) 21 [.int .i32 (mulqW (q2) (pullF2 q1 q2 a2)).v] := (hBz 59 21 [.int .i32 (mulqW (q2) (pullF2 q1 q2 a2)).v] (by kernel_rfl) [.int .i32 (mulqW (q2) (pullF2 q1 q2 a2)).v] (by kernel_rfl)).1
          have nf59 : Fd wz3 [w.heap.size + 1 + 1 + 1] [w.heap.size, w.heap.size + 1, w.heap.size + 1 + 1] wz4 (γ 59) := (hBz 59 21 [.int .i32 (mulqW (q2) (pullF2 q1 q2 a2)).v] (by kernel_rfl) [.int .i32 (mulqW (q2) (pullF2 q1 q2 a2)).v] (by kernel_rfl)).2.1
          have nb73 : Blk wz4 (γ 73) 21 [.int .i32 (mulqW (q2) (pullF1 q0 q1 q2 q3 a1)).v] := (hBz 73 21 [.int .i32 (mulqW (q2) (pullF1 q0 q1 q2 q3 a1)).v] (by kernel_rfl) [.int .i32 (mulqW (q2) (pullF1 q0 q1 q2 q3 a1)).v] (by kernel_rfl)).1
          have nf73 : Fd wz3 [w.heap.size + 1 + 1 + 1] [w.heap.size, w.heap.size + 1, w.heap.size + 1 + 1] wz4 (γ 73) := (hBz 73 21 [.int .i32 (mulqW (q2) (pullF1 q0 q1 q2 q3 a1)).v] (by kernel_rfl) [.int .i32 (mulqW (q2) (pullF1 q0 q1 q2 q3 a1)).v] (by kernel_rfl)).2.1
          have ob0 : Blk wz4 (w.heap.size + 1 + 1 + 1) 27 [.int .i32 (downW (lessW (mulqW (q1) (pullF1 q0 q1 q2 q3 a1)) [mulqW (q2) (pullF0 q0 q1 q2 q3 a0)]) (1)).v, .int .i32 (lessW (downW (moreW (mulqW (q3) (pullF0 q0 q1 q2 q3 a0)) [mulqW (q0) (pullF1 q0 q1 q2 q3 a1)]) (1)) [mulqW (q1) (pullF2 q1 q2 a2)]).v, .int .i32 (lessW (downW (lessW (mulqW (q3) (pullF1 q0 q1 q2 q3 a1)) [mulqW (q0) (pullF0 q0 q1 q2 q3 a0)]) (1)) [mulqW (q2) (pullF2 q1 q2 a2)]).v, .int .i32 (downW (moreW (mulqW (q1) (pullF0 q0 q1 q2 q3 a0)) [mulqW (q2) (pullF1 q0 q1 q2 q3 a1)]) (1)).v] := by have h := (hBz 78 27 [.int .i32 0, .int .i32 0, .int .i32 0, .int .i32 0] (by kernel_rfl) [.int .i32 (downW (lessW (mulqW (q1) (pullF1 q0 q1 q2 q3 a1)) [mulqW (q2) (pullF0 q0 q1 q2 q3 a0)]) (1)).v, .int .i32 (lessW (downW (moreW (mulqW (q3) (pullF0 q0 q1 q2 q3 a0)) [mulqW (q0) (pullF1 q0 q1 q2 q3 a1)]) (1)) [mulqW (q1) (pullF2 q1 q2 a2)]).v, .int .i32 (lessW (downW (lessW (mulqW (q3) (pullF1 q0 q1 q2 q3 a1)) [mulqW (q0) (pullF0 q0 q1 q2 q3 a0)]) (1)) [mulqW (q2) (pullF2 q1 q2 a2)]).v, .int .i32 (downW (moreW (mulqW (q1) (pullF0 q0 q1 q2 q3 a0)) [mulqW (q2) (pullF1 q0 q1 q2 q3 a1)]) (1)).v] (by kernel_rfl)).1; rw [hOz 78 (Nat.le_trans (Nat.le_of_eq (by kernel_rfl : _ = 78)) (by decide : 78 ≤ 78))] at h; exact h
          refine end_of [(76, .agg #[.iface 59 (.pointer (some p))]), (77, .agg #[.iface 59 (.pointer (some p))]), (78, .func (.func 70) #[.agg #[.iface 59 (.pointer (some p))]] #[]), (79, .pointer (some ⟨w.heap.size + 1, 1, none⟩)), (80, .int .i32 (q1).v), (81, .int .i32 (pullF1 q0 q1 q2 q3 a1).v), (82, .int .i32 (mulqW (q1) (pullF1 q0 q1 q2 q3 a1)).v), (83, .func (.func 70) #[.agg #[.iface 59 (.pointer (some p))]] #[]), (84, .pointer (some ⟨w.heap.size + 1, 2, none⟩)), (85, .int .i32 (q2).v), (86, .int .i32 (pullF0 q0 q1 q2 q3 a0).v), (87, .int .i32 (mulqW (q2) (pullF0 q0 q1 q2 q3 a0)).v), (88, .slice (some ⟨γ 12, 0, none⟩) 1 1), (89, .int .i32 (lessW (mulqW (q1) (pullF1 q0 q1 q2 q3 a1)) [mulqW (q2) (pullF0 q0 q1 q2 q3 a0)]).v), (90, .int .i32 (downW (lessW (mulqW (q1) (pullF1 q0 q1 q2 q3 a1)) [mulqW (q2) (pullF0 q0 q1 q2 q3 a0)]) (1)).v), (91, .agg #[.iface 59 (.pointer (some p))]), (92, .agg #[.iface 59 (.pointer (some p))]), (93, .agg #[.iface 59 (.pointer (some p))]), (94, .func (.func 70) #[.agg #[.iface 59 (.pointer (some p))]] #[]), (95, .pointer (some ⟨w.heap.size + 1, 3, none⟩)), (96, .int .i32 (q3).v), (97, .int .i32 (pullF0 q0 q1 q2 q3 a0).v), (98, .int .i32 (mulqW (q3) (pullF0 q0 q1 q2 q3 a0)).v), (99, .func (.func 70) #[.agg #[.iface 59 (.pointer (some p))]] #[]), (100, .pointer (some ⟨w.heap.size + 1, 0, none⟩)), (101, .int .i32 (q0).v), (102, .int .i32 (pullF1 q0 q1 q2 q3 a1).v), (103, .int .i32 (mulqW (q0) (pullF1 q0 q1 q2 q3 a1)).v), (104, .slice (some ⟨γ 28, 0, none⟩) 1 1), (105, .int .i32 (moreW (mulqW (q3) (pullF0 q0 q1 q2 q3 a0)) [mulqW (q0) (pullF1 q0 q1 q2 q3 a1)]).v), (106, .int .i32 (downW (moreW (mulqW (q3) (pullF0 q0 q1 q2 q3 a0)) [mulqW (q0) (pullF1 q0 q1 q2 q3 a1)]) (1)).v), (107, .func (.func 70) #[.agg #[.iface 59 (.pointer (some p))]] #[]), (108, .pointer (some ⟨w.heap.size + 1, 1, none⟩)), (109, .int .i32 (q1).v), (110, .int .i32 (pullF2 q1 q2 a2).v), (111, .int .i32 (mulqW (q1) (pullF2 q1 q2 a2)).v), (112, .slice (some ⟨γ 36, 0, none⟩) 1 1), (113, .int .i32 (lessW (downW (moreW (mulqW (q3) (pullF0 q0 q1 q2 q3 a0)) [mulqW (q0) (pullF1 q0 q1 q2 q3 a1)]) (1)) [mulqW (q1) (pullF2 q1 q2 a2)]).v), (114, .agg #[.iface 59 (.pointer (some p))]), (115, .agg #[.iface 59 (.pointer (some p))]), (116, .agg #[.iface 59 (.pointer (some p))]), (117, .func (.func 70) #[.agg #[.iface 59 (.pointer (some p))]] #[]), (118, .pointer (some ⟨w.heap.size + 1, 3, none⟩)), (119, .int .i32 (q3).v), (120, .int .i32 (pullF1 q0 q1 q2 q3 a1).v), (121, .int .i32 (mulqW (q3) (pullF1 q0 q1 q2 q3 a1)).v), (122, .func (.func 70) #[.agg #[.iface 59 (.pointer (some p))]] #[]), (123, .pointer (some ⟨w.heap.size + 1, 0, none⟩)), (124, .int .i32 (q0).v), (125, .int .i32 (pullF0 q0 q1 q2 q3 a0).v), (126, .int .i32 (mulqW (q0) (pullF0 q0 q1 q2 q3 a0)).v), (127, .slice (some ⟨γ 51, 0, none⟩) 1 1), (128, .int .i32 (lessW (mulqW (q3) (pullF1 q0 q1 q2 q3 a1)) [mulqW (q0) (pullF0 q0 q1 q2 q3 a0)]).v), (129, .int .i32 (downW (lessW (mulqW (q3) (pullF1 q0 q1 q2 q3 a1)) [mulqW (q0) (pullF0 q0 q1 q2 q3 a0)]) (1)).v), (130, .func (.func 70) #[.agg #[.iface 59 (.pointer (some p))]] #[]), (131, .pointer (some ⟨w.heap.size + 1, 2, none⟩)), (132, .int .i32 (q2).v), (133, .int .i32 (pullF2 q1 q2 a2).v), (134, .int .i32 (mulqW (q2) (pullF2 q1 q2 a2)).v), (135, .slice (some ⟨γ 59, 0, none⟩) 1 1), (136, .int .i32 (lessW (downW (lessW (mulqW (q3) (pullF1 q0 q1 q2 q3 a1)) [mulqW (q0) (pullF0 q0 q1 q2 q3 a0)]) (1)) [mulqW (q2) (pullF2 q1 q2 a2)]).v), (137, .agg #[.iface 59 (.pointer (some p))]), (138, .agg #[.iface 59 (.pointer (some p))]), (139, .func (.func 70) #[.agg #[.iface 59 (.pointer (some p))]] #[]), (140, .pointer (some ⟨w.heap.size + 1, 1, none⟩)), (141, .int .i32 (q1).v), (142, .int .i32 (pullF0 q0 q1 q2 q3 a0).v), (143, .int .i32 (mulqW (q1) (pullF0 q0 q1 q2 q3 a0)).v), (144, .func (.func 70) #[.agg #[.iface 59 (.pointer (some p))]] #[]), (145, .pointer (some ⟨w.heap.size + 1, 2, none⟩)), (146, .int .i32 (q2).v), (147, .int .i32 (pullF1 q0 q1 q2 q3 a1).v), (148, .int .i32 (mulqW (q2) (pullF1 q0 q1 q2 q3 a1)).v), (149, .slice (some ⟨γ 73, 0, none⟩) 1 1), (150, .int .i32 (moreW (mulqW (q1) (pullF0 q0 q1 q2 q3 a0)) [mulqW (q2) (pullF1 q0 q1 q2 q3 a1)]).v), (151, .int .i32 (downW (moreW (mulqW (q1) (pullF0 q0 q1 q2 q3 a0)) [mulqW (q2) (pullF1 q0 q1 q2 q3 a1)]) (1)).v), (152, .agg #[.int .i32 (downW (lessW (mulqW (q1) (pullF1 q0 q1 q2 q3 a1)) [mulqW (q2) (pullF0 q0 q1 q2 q3 a0)]) (1)).v, .int .i32 (lessW (downW (moreW (mulqW (q3) (pullF0 q0 q1 q2 q3 a0)) [mulqW (q0) (pullF1 q0 q1 q2 q3 a1)]) (1)) [mulqW (q1) (pullF2 q1 q2 a2)]).v, .int .i32 (lessW (downW (lessW (mulqW (q3) (pullF1 q0 q1 q2 q3 a1)) [mulqW (q0) (pullF0 q0 q1 q2 q3 a0)]) (1)) [mulqW (q2) (pullF2 q1 q2 a2)]).v, .int .i32 (downW (moreW (mulqW (q1) (pullF0 q0 q1 q2 q3 a0)) [mulqW (q2) (pullF1 q0 q1 q2 q3 a1)]) (1)).v])] (by kernel_rfl) ?_
          clear hBz hnez hOz HS0 hU0
          simp only [Reg.of, List.foldl_cons, List.foldl_nil, List.setIfInBounds_toArray, List.set_cons_zero, List.set_cons_succ]
          generalize γ 12 = b12 at *
          generalize γ 28 = b28 at *
          generalize γ 36 = b36 at *
          generalize γ 51 = b51 at *
          generalize γ 59 = b59 at *
          generalize γ 73 = b73 at *
          have HC4 := hide (HC3.out.trans hSz.chg (D := []) (by simp; try omega))
          have y4_0 : wz4.cell? ⟨w.heap.size, 0, none⟩ = some (.iface 59 (.pointer (some p))) := hSz.at_ 0 _ _ (by rw [hCL]; rfl)
          have y4_1 : wz4.cell? ⟨w.heap.size + 1, 0, none⟩ = some (.int .i32 (q0).v) := hSz.at_ 1 _ _ (by rw [hCL]; rfl)
          have y4_2 : wz4.cell? ⟨w.heap.size + 1, 1, none⟩ = some (.int .i32 (q1).v) := hSz.at_ 2 _ _ (by rw [hCL]; rfl)
          have y4_3 : wz4.cell? ⟨w.heap.size + 1, 2, none⟩ = some (.int .i32 (q2).v) := hSz.at_ 3 _ _ (by rw [hCL]; rfl)
          have y4_4 : wz4.cell? ⟨w.heap.size + 1, 3, none⟩ = some (.int .i32 (q3).v) := hSz.at_ 4 _ _ (by rw [hCL]; rfl)
          have y4_5 : wz4.cell? ⟨w.heap.size + 1 + 1, 0, none⟩ = some (.int .i32 (a0).v) := hSz.at_ 5 _ _ (by rw [hCL]; rfl)
          have y4_6 : wz4.cell? ⟨w.heap.size + 1 + 1, 1, none⟩ = some (.int .i32 (a1).v) := hSz.at_ 6 _ _ (by rw [hCL]; rfl)
          have y4_7 : wz4.cell? ⟨w.heap.size + 1 + 1, 2, none⟩ = some (.int .i32 (a2).v) := hSz.at_ 7 _ _ (by rw [hCL]; rfl)
          clear hSz hCL hlt0 CL y3_0 y3_1 y3_2 y3_3 y3_4 y3_5 y3_6 y3_7 HC3 mo3_0
          have mo4_0 := ob0
          clear ob0
          clear nb12 nf12
          clear nb28 nf28
          clear nb36 nf36
          clear nb51 nf51
          clear nb59 nf59
          clear nb73 nf73
          have q0' := mo4_0.cell' (i := 0) rfl
          have q1' := mo4_0.cell' (i := 1) rfl
          have q2' := mo4_0.cell' (i := 2) rfl
          have q3' := mo4_0.cell' (i := 3) rfl
          go_wp2
          refine bodyPost_ret (v := .agg #[.int .i32 (pullW q0 q1 q2 q3 a0 a1 a2).a.v, .int .i32 (pullW q0 q1 q2 q3 a0 a1 a2).b.v, .int .i32 (pullW q0 q1 q2 q3 a0 a1 a2).c.v, .int .i32 (pullW q0 q1 q2 q3 a0 a1 a2).d.v]) (by simp [results, Tryz.f43, go_sem, q0', q1', q2', q3']; exact ⟨rfl, rfl, rfl, rfl⟩) rfl ⟨rfl, HC4.out⟩
        · intro a wu γ nph K hp hK
          obtain ⟨e3a, e3b⟩ := hp.old_ 3 (.pointer (some ⟨w.heap.size, 0, none⟩))
          have hS : Sd wz3 [w.heap.size + 1 + 1 + 1] CL wu := hp.S
          have c0 := hS.at_ 0 ⟨w.heap.size, 0, none⟩ (.iface 59 (.pointer (some p))) (by rw [hCL]; rfl)
          have hk := hK.pure (.agg #[.iface 59 (.pointer (some p))]) hp.S
          clear hp hK hS
          go_simp
          exact hk
        · intro a wu γ nph K hp hK
          obtain ⟨e3a, e3b⟩ := hp.old_ 3 (.pointer (some ⟨w.heap.size, 0, none⟩))
          have hS : Sd wz3 [w.heap.size + 1 + 1 + 1] CL wu := hp.S
          have c0 := hS.at_ 0 ⟨w.heap.size, 0, none⟩ (.iface 59 (.pointer (some p))) (by rw [hCL]; rfl)
          have hk := hK.pure (.agg #[.iface 59 (.pointer (some p))]) hp.S
          clear hp hK hS
          go_simp
          exact hk
        · intro a wu γ nph K hp hK
          obtain ⟨e7a, e7b⟩ := hp.old_ 7 (.func (.func 70) #[.agg #[.iface 59 (.pointer (some p))]] #[])
          have hk := hK.pure (.func (.func 70) #[.agg #[.iface 59 (.pointer (some p))]] #[]) hp.S
          clear hp hK
          go_simp
          exact hk
        · intro a wu γ nph K hp hK
          obtain ⟨e4a, e4b⟩ := hp.old_ 4 (.pointer (some ⟨w.heap.size + 1, 0, none⟩))
          have hk := hK.pure (.pointer (some ⟨w.heap.size + 1, 1, none⟩)) hp.S
          clear hp hK
          go_simp
          exact hk
        · intro a wu γ nph K hp hK
          obtain ⟨e79a, e79b⟩ := hp.dep_ 79 3 (.pointer (some ⟨w.heap.size + 1, 1, none⟩))
          have hS : Sd wz3 [w.heap.size + 1 + 1 + 1] CL wu := hp.S
          have c2 := hS.at_ 2 ⟨w.heap.size + 1, 1, none⟩ (.int .i32 (q1).v) (by rw [hCL]; rfl)
          have hk := hK.pure (.int .i32 (q1).v) hp.S
          clear hp hK hS
          go_simp
          exact hk
        · intro a wu γ nph K hp hK
          obtain ⟨e9a, e9b⟩ := hp.old_ 9 (.int .i32 (pullF1 q0 q1 q2 q3 a1).v)
          have hk := hK.pure (.int .i32 (pullF1 q0 q1 q2 q3 a1).v) hp.S
          clear hp hK
          go_simp
          exact hk
        · intro a wu γ nph K hp hK
          obtain ⟨e78a, e78b⟩ := hp.dep_ 78 2 (.func (.func 70) #[.agg #[.iface 59 (.pointer (some p))]] #[])
          obtain ⟨e80a, e80b⟩ := hp.dep_ 80 4 (.int .i32 (q1).v)
          obtain ⟨e81a, e81b⟩ := hp.dep_ 81 5 (.int .i32 (pullF1 q0 q1 q2 q3 a1).v)
          have hS : Sd wz3 [w.heap.size + 1 + 1 + 1] CL wu := hp.S
          have hk := hK.call (.int .i32 (mulqW (q1) (pullF1 q0 q1 q2 q3 a1)).v)
          clear hp hK
          go_simp
          refine (w_mulq p _ _ _).mono ?_
          rintro e w7 ⟨rfl, hcX⟩
          exact hk _ (hS.call hcX) (Reg.keep_call _ rfl hcX)
        · intro a wu γ nph K hp hK
          obtain ⟨e7a, e7b⟩ := hp.old_ 7 (.func (.func 70) #[.agg #[.iface 59 (.pointer (some p))]] #[])
          have hk := hK.pure (.func (.func 70) #[.agg #[.iface 59 (.pointer (some p))]] #[]) hp.S
          clear hp hK
          go_simp
          exact hk
        · intro a wu γ nph K hp hK
          obtain ⟨e4a, e4b⟩ := hp.old_ 4 (.pointer (some ⟨w.heap.size + 1, 0, none⟩))
          have hk := hK.pure (.pointer (some ⟨w.heap.size + 1, 2, none⟩)) hp.S
          clear hp hK
          go_simp
          exact hk
        · intro a wu γ nph K hp hK
          obtain ⟨e84a, e84b⟩ := hp.dep_ 84 8 (.pointer (some ⟨w.heap.size + 1, 2, none⟩))
          have hS : Sd wz3 [w.heap.size + 1 + 1 + 1] CL wu := hp.S
          have c3 := hS.at_ 3 ⟨w.heap.size + 1, 2, none⟩ (.int .i32 (q2).v) (by rw [hCL]; rfl)
          have hk := hK.pure (.int .i32 (q2).v) hp.S
          clear hp hK hS
          go_simp
          exact hk
        · intro a wu γ nph K hp hK
          obtain ⟨e8a, e8b⟩ := hp.old_ 8 (.int .i32 (pullF0 q0 q1 q2 q3 a0).v)
          have hk := hK.pure (.int .i32 (pullF0 q0 q1 q2 q3 a0).v) hp.S
          clear hp hK
          go_simp
          exact hk
        · intro a wu γ nph K hp hK
          obtain ⟨e83a, e83b⟩ := hp.dep_ 83 7 (.func (.func 70) #[.agg #[.iface 59 (.pointer (some p))]] #[])
          obtain ⟨e85a, e85b⟩ := hp.dep_ 85 9 (.int .i32 (q2).v)
          obtain ⟨e86a, e86b⟩ := hp.dep_ 86 10 (.int .i32 (pullF0 q0 q1 q2 q3 a0).v)
          have hS : Sd wz3 [w.heap.size + 1 + 1 + 1] CL wu := hp.S
          have hk := hK.call (.int .i32 (mulqW (q2) (pullF0 q0 q1 q2 q3 a0)).v)
          clear hp hK
          go_simp
          refine (w_mulq p _ _ _).mono ?_
          rintro e w7 ⟨rfl, hcX⟩
          exact hk _ (hS.call hcX) (Reg.keep_call _ rfl hcX)
        · intro a wu γ nph K hp hK
          obtain ⟨e87a, e87b⟩ := hp.dep_ 87 11 (.int .i32 (mulqW (q2) (pullF0 q0 q1 q2 q3 a0)).v)
          have hk := hK.new 21 [.int .i32 (mulqW (q2) (pullF0 q0 q1 q2 q3 a0)).v] (fun g => .slice (some ⟨g, 0, none⟩) 1 1)
          clear hp hK
          go_simp
          exact hk
        · intro a wu γ nph K hp hK
          obtain ⟨e77a, e77b⟩ := hp.dep_ 77 1 (.agg #[.iface 59 (.pointer (some p))])
          obtain ⟨e82a, e82b⟩ := hp.dep_ 82 6 (.int .i32 (mulqW (q1) (pullF1 q0 q1 q2 q3 a1)).v)
          obtain ⟨e88a, e88b⟩ := hp.dep_ 88 12 (.slice (some ⟨γ 12, 0, none⟩) 1 1)
          have hS : Sd wz3 [w.heap.size + 1 + 1 + 1] CL wu := hp.S
          have nb12 : Blk wu (γ 12) 21 [.int .i32 (mulqW (q2) (pullF0 q0 q1 q2 q3 a0)).v] := (hp.blk_ 12 (T := 21) (c := [.int .i32 (mulqW (q2) (pullF0 q0 q1 q2 q3 a0)).v])).1
          have hk := hK.call (.int .i32 (lessW (mulqW (q1) (pullF1 q0 q1 q2 q3 a1)) [mulqW (q2) (pullF0 q0 q1 q2 q3 a0)]).v)
          clear hp hK
          go_simp
          refine (wless_calls p _ [mulqW (q2) (pullF0 q0 q1 q2 q3 a0)] _ _ (Sl.blk' (show Blk wu (γ 12) 21 (wds [mulqW (q2) (pullF0 q0 q1 q2 q3 a0)]) from nb12) rfl (Nat.le_refl _)) (by simp)).mono ?_
          rintro e w7 ⟨rfl, hcX⟩
          exact hk _ (hS.call hcX) (Reg.keep_call _ rfl hcX)
        · intro a wu γ nph K hp hK
          obtain ⟨e76a, e76b⟩ := hp.dep_ 76 0 (.agg #[.iface 59 (.pointer (some p))])
          obtain ⟨e89a, e89b⟩ := hp.dep_ 89 13 (.int .i32 (lessW (mulqW (q1) (pullF1 q0 q1 q2 q3 a1)) [mulqW (q2) (pullF0 q0 q1 q2 q3 a0)]).v)
          have hS : Sd wz3 [w.heap.size + 1 + 1 + 1] CL wu := hp.S
          have hk := hK.call (.int .i32 (downW (lessW (mulqW (q1) (pullF1 q0 q1 q2 q3 a1)) [mulqW (q2) (pullF0 q0 q1 q2 q3 a0)]) (1)).v)
          clear hp hK
          go_simp
          refine (w_down p _ _ _ (by decide)).mono ?_
          rintro e w7 ⟨rfl, hcX⟩
          exact hk _ (hS.call hcX) (Reg.keep_call _ rfl hcX)
        · intro a wu γ nph K hp hK
          obtain ⟨e3a, e3b⟩ := hp.old_ 3 (.pointer (some ⟨w.heap.size, 0, none⟩))
          have hS : Sd wz3 [w.heap.size + 1 + 1 + 1] CL wu := hp.S
          have c0 := hS.at_ 0 ⟨w.heap.size, 0, none⟩ (.iface 59 (.pointer (some p))) (by rw [hCL]; rfl)
          have hk := hK.pure (.agg #[.iface 59 (.pointer (some p))]) hp.S
          clear hp hK hS
          go_simp
          exact hk
        · intro a wu γ nph K hp hK
          obtain ⟨e3a, e3b⟩ := hp.old_ 3 (.pointer (some ⟨w.heap.size, 0, none⟩))
          have hS : Sd wz3 [w.heap.size + 1 + 1 + 1] CL wu := hp.S
          have c0 := hS.at_ 0 ⟨w.heap.size, 0, none⟩ (.iface 59 (.pointer (some p))) (by rw [hCL]; rfl)
          have hk := hK.pure (.agg #[.iface 59 (.pointer (some p))]) hp.S
          clear hp hK hS
          go_simp
          exact hk
        · intro a wu γ nph K hp hK
          obtain ⟨e3a, e3b⟩ := hp.old_ 3 (.pointer (some ⟨w.heap.size, 0, none⟩))
          have hS : Sd wz3 [w.heap.size + 1 + 1 + 1] CL wu := hp.S
          have c0 := hS.at_ 0 ⟨w.heap.size, 0, none⟩ (.iface 59 (.pointer (some p))) (by rw [hCL]; rfl)
          have hk := hK.pure (.agg #[.iface 59 (.pointer (some p))]) hp.S
          clear hp hK hS
          go_simp
          exact hk
        · intro a wu γ nph K hp hK
          obtain ⟨e7a, e7b⟩ := hp.old_ 7 (.func (.func 70) #[.agg #[.iface 59 (.pointer (some p))]] #[])
          have hk := hK.pure (.func (.func 70) #[.agg #[.iface 59 (.pointer (some p))]] #[]) hp.S
          clear hp hK
          go_simp
          exact hk
        · intro a wu γ nph K hp hK
          obtain ⟨e4a, e4b⟩ := hp.old_ 4 (.pointer (some ⟨w.heap.size + 1, 0, none⟩))
          have hk := hK.pure (.pointer (some ⟨w.heap.size + 1, 3, none⟩)) hp.S
          clear hp hK
          go_simp
          exact hk
        · intro a wu γ nph K hp hK
          obtain ⟨e95a, e95b⟩ := hp.dep_ 95 19 (.pointer (some ⟨w.heap.size + 1, 3, none⟩))
          have hS : Sd wz3 [w.heap.size + 1 + 1 + 1] CL wu := hp.S
          have c4 := hS.at_ 4 ⟨w.heap.size + 1, 3, none⟩ (.int .i32 (q3).v) (by rw [hCL]; rfl)
          have hk := hK.pure (.int .i32 (q3).v) hp.S
          clear hp hK hS
          go_simp
          exact hk
        · intro a wu γ nph K hp hK
          obtain ⟨e8a, e8b⟩ := hp.old_ 8 (.int .i32 (pullF0 q0 q1 q2 q3 a0).v)
          have hk := hK.pure (.int .i32 (pullF0 q0 q1 q2 q3 a0).v) hp.S
          clear hp hK
          go_simp
          exact hk
        · intro a wu γ nph K hp hK
          obtain ⟨e94a, e94b⟩ := hp.dep_ 94 18 (.func (.func 70) #[.agg #[.iface 59 (.pointer (some p))]] #[])
          obtain ⟨e96a, e96b⟩ := hp.dep_ 96 20 (.int .i32 (q3).v)
          obtain ⟨e97a, e97b⟩ := hp.dep_ 97 21 (.int .i32 (pullF0 q0 q1 q2 q3 a0).v)
          have hS : Sd wz3 [w.heap.size + 1 + 1 + 1] CL wu := hp.S
          have hk := hK.call (.int .i32 (mulqW (q3) (pullF0 q0 q1 q2 q3 a0)).v)
          clear hp hK
          go_simp
          refine (w_mulq p _ _ _).mono ?_
          rintro e w7 ⟨rfl, hcX⟩
          exact hk _ (hS.call hcX) (Reg.keep_call _ rfl hcX)
        · intro a wu γ nph K hp hK
          obtain ⟨e7a, e7b⟩ := hp.old_ 7 (.func (.func 70) #[.agg #[.iface 59 (.pointer (some p))]] #[])
          have hk := hK.pure (.func (.func 70) #[.agg #[.iface 59 (.pointer (some p))]] #[]) hp.S
          clear hp hK
          go_simp
          exact hk
        · intro a wu γ nph K hp hK
          obtain ⟨e4a, e4b⟩ := hp.old_ 4 (.pointer (some ⟨w.heap.size + 1, 0, none⟩))
          have hk := hK.pure (.pointer (some ⟨w.heap.size + 1, 0, none⟩)) hp.S
          clear hp hK
          go_simp
          exact hk
        · intro a wu γ nph K hp hK
          obtain ⟨e100a, e100b⟩ := hp.dep_ 100 24 (.pointer (some ⟨w.heap.size + 1, 0, none⟩))
          have hS : Sd wz3 [w.heap.size + 1 + 1 + 1] CL wu := hp.S
          have c1 := hS.at_ 1 ⟨w.heap.size + 1, 0, none⟩ (.int .i32 (q0).v) (by rw [hCL]; rfl)
          have hk := hK.pure (.int .i32 (q0).v) hp.S
          clear hp hK hS
          go_simp
          exact hk
        · intro a wu γ nph K hp hK
          obtain ⟨e9a, e9b⟩ := hp.old_ 9 (.int .i32 (pullF1 q0 q1 q2 q3 a1).v)
          have hk := hK.pure (.int .i32 (pullF1 q0 q1 q2 q3 a1).v) hp.S
          clear hp hK
          go_simp
          exact hk
        · intro a wu γ nph K hp hK
          obtain ⟨e99a, e99b⟩ := hp.dep_ 99 23 (.func (.func 70) #[.agg #[.iface 59 (.pointer (some p))]] #[])
          obtain ⟨e101a, e101b⟩ := hp.dep_ 101 25 (.int .i32 (q0).v)
          obtain ⟨e102a, e102b⟩ := hp.dep_ 102 26 (.int .i32 (pullF1 q0 q1 q2 q3 a1).v)
          have hS : Sd wz3 [w.heap.size + 1 + 1 + 1] CL wu := hp.S
          have hk := hK.call (.int .i32 (mulqW (q0) (pullF1 q0 q1 q2 q3 a1)).v)
          clear hp hK
          go_simp
          refine (w_mulq p _ _ _).mono ?_
          rintro e w7 ⟨rfl, hcX⟩
          exact hk _ (hS.call hcX) (Reg.keep_call _ rfl hcX)
        · intro a wu γ nph K hp hK
          obtain ⟨e103a, e103b⟩ := hp.dep_ 103 27 (.int .i32 (mulqW (q0) (pullF1 q0 q1 q2 q3 a1)).v)
          have hk := hK.new 21 [.int .i32 (mulqW (q0) (pullF1 q0 q1 q2 q3 a1)).v] (fun g => .slice (some ⟨g, 0, none⟩) 1 1)
          clear hp hK
          go_simp
          exact hk
        · intro a wu γ nph K hp hK
          obtain ⟨e93a, e93b⟩ := hp.dep_ 93 17 (.agg #[.iface 59 (.pointer (some p))])
          obtain ⟨e98a, e98b⟩ := hp.dep_ 98 22 (.int .i32 (mulqW (q3) (pullF0 q0 q1 q2 q3 a0)).v)
          obtain ⟨e104a, e104b⟩ := hp.dep_ 104 28 (.slice (some ⟨γ 28, 0, none⟩) 1 1)
          have hS : Sd wz3 [w.heap.size + 1 + 1 + 1] CL wu := hp.S
          have nb28 : Blk wu (γ 28) 21 [.int .i32 (mulqW (q0) (pullF1 q0 q1 q2 q3 a1)).v] := (hp.blk_ 28 (T := 21) (c := [.int .i32 (mulqW (q0) (pullF1 q0 q1 q2 q3 a1)).v])).1
          have hk := hK.call (.int .i32 (moreW (mulqW (q3) (pullF0 q0 q1 q2 q3 a0)) [mulqW (q0) (pullF1 q0 q1 q2 q3 a1)]).v)
          clear hp hK
          go_simp
          refine (wmore_calls p _ [mulqW (q0) (pullF1 q0 q1 q2 q3 a1)] _ _ (Sl.blk' (show Blk wu (γ 28) 21 (wds [mulqW (q0) (pullF1 q0 q1 q2 q3 a1)]) from nb28) rfl (Nat.le_refl _)) (by simp)).mono ?_
          rintro e w7 ⟨rfl, hcX⟩
          exact hk _ (hS.call hcX) (Reg.keep_call _ rfl hcX)
        · intro a wu γ nph K hp hK
          obtain ⟨e92a, e92b⟩ := hp.dep_ 92 16 (.agg #[.iface 59 (.pointer (some p))])
          obtain ⟨e105a, e105b⟩ := hp.dep_ 105 29 (.int .i32 (moreW (mulqW (q3) (pullF0 q0 q1 q2 q3 a0)) [mulqW (q0) (pullF1 q0 q1 q2 q3 a1)]).v)
          have hS : Sd wz3 [w.heap.size + 1 + 1 + 1] CL wu := hp.S
          have hk := hK.call (.int .i32 (downW (moreW (mulqW (q3) (pullF0 q0 q1 q2 q3 a0)) [mulqW (q0) (pullF1 q0 q1 q2 q3 a1)]) (1)).v)
          clear hp hK
          go_simp
          refine (w_down p _ _ _ (by decide)).mono ?_
          rintro e w7 ⟨rfl, hcX⟩
          exact hk _ (hS.call hcX) (Reg.keep_call _ rfl hcX)
        · intro a wu γ nph K hp hK
          obtain ⟨e7a, e7b⟩ := hp.old_ 7 (.func (.func 70) #[.agg #[.iface 59 (.pointer (some p))]] #[])
          have hk := hK.pure (.func (.func 70) #[.agg #[.iface 59 (.pointer (some p))]] #[]) hp.S
          clear hp hK
          go_simp
          exact hk
        · intro a wu γ nph K hp hK
          obtain ⟨e4a, e4b⟩ := hp.old_ 4 (.pointer (some ⟨w.heap.size + 1, 0, none⟩))
          have hk := hK.pure (.pointer (some ⟨w.heap.size + 1, 1, none⟩)) hp.S
          clear hp hK
          go_simp
          exact hk
        · intro a wu γ nph K hp hK
          obtain ⟨e108a, e108b⟩ := hp.dep_ 108 32 (.pointer (some ⟨w.heap.size + 1, 1, none⟩))
          have hS : Sd wz3 [w.heap.size + 1 + 1 + 1] CL wu := hp.S
          have c2 := hS.at_ 2 ⟨w.heap.size + 1, 1, none⟩ (.int .i32 (q1).v) (by rw [hCL]; rfl)
          have hk := hK.pure (.int .i32 (q1).v) hp.S
          clear hp hK hS
          go_simp
          exact hk
        · intro a wu γ nph K hp hK
          obtain ⟨e10a, e10b⟩ := hp.old_ 10 (.int .i32 (pullF2 q1 q2 a2).v)
          have hk := hK.pure (.int .i32 (pullF2 q1 q2 a2).v) hp.S
          clear hp hK
          go_simp
          exact hk
        · intro a wu γ nph K hp hK
          obtain ⟨e107a, e107b⟩ := hp.dep_ 107 31 (.func (.func 70) #[.agg #[.iface 59 (.pointer (some p))]] #[])
          obtain ⟨e109a, e109b⟩ := hp.dep_ 109 33 (.int .i32 (q1).v)
          obtain ⟨e110a, e110b⟩ := hp.dep_ 110 34 (.int .i32 (pullF2 q1 q2 a2).v)
          have hS : Sd wz3 [w.heap.size + 1 + 1 + 1] CL wu := hp.S
          have hk := hK.call (.int .i32 (mulqW (q1) (pullF2 q1 q2 a2)).v)
          clear hp hK
          go_simp
          refine (w_mulq p _ _ _).mono ?_
          rintro e w7 ⟨rfl, hcX⟩
          exact hk _ (hS.call hcX) (Reg.keep_call _ rfl hcX)
        · intro a wu γ nph K hp hK
          obtain ⟨e111a, e111b⟩ := hp.dep_ 111 35 (.int .i32 (mulqW (q1) (pullF2 q1 q2 a2)).v)
          have hk := hK.new 21 [.int .i32 (mulqW (q1) (pullF2 q1 q2 a2)).v] (fun g => .slice (some ⟨g, 0, none⟩) 1 1)
          clear hp hK
          go_simp
          exact hk
        · intro a wu γ nph K hp hK
          obtain ⟨e91a, e91b⟩ := hp.dep_ 91 15 (.agg #[.iface 59 (.pointer (some p))])
          obtain ⟨e106a, e106b⟩ := hp.dep_ 106 30 (.int .i32 (downW (moreW (mulqW (q3) (pullF0 q0 q1 q2 q3 a0)) [mulqW (q0) (pullF1 q0 q1 q2 q3 a1)]) (1)).v)
          obtain ⟨e112a, e112b⟩ := hp.dep_ 112 36 (.slice (some ⟨γ 36, 0, none⟩) 1 1)
          have hS : Sd wz3 [w.heap.size + 1 + 1 + 1] CL wu := hp.S
          have nb36 : Blk wu (γ 36) 21 [.int .i32 (mulqW (q1) (pullF2 q1 q2 a2)).v] := (hp.blk_ 36 (T := 21) (c := [.int .i32 (mulqW (q1) (pullF2 q1 q2 a2)).v])).1
          have hk := hK.call (.int .i32 (lessW (downW (moreW (mulqW (q3) (pullF0 q0 q1 q2 q3 a0)) [mulqW (q0) (pullF1 q0 q1 q2 q3 a1)]) (1)) [mulqW (q1) (pullF2 q1 q2 a2)]).v)
          clear hp hK
          go_simp
          refine (wless_calls p _ [mulqW (q1) (pullF2 q1 q2 a2)] _ _ (Sl.blk' (show Blk wu (γ 36) 21 (wds [mulqW (q1) (pullF2 q1 q2 a2)]) from nb36) rfl (Nat.le_refl _)) (by simp)).mono ?_
          rintro e w7 ⟨rfl, hcX⟩
          exact hk _ (hS.call hcX) (Reg.keep_call _ rfl hcX)
        · intro a wu γ nph K hp hK
          obtain ⟨e3a, e3b⟩ := hp.old_ 3 (.pointer (some ⟨w.heap.size, 0, none⟩))
          have hS : Sd wz3 [w.heap.size + 1 + 1 + 1] CL wu := hp.S
          have c0 := hS.at_ 0 ⟨w.heap.size, 0, none⟩ (.iface 59 (.pointer (some p))) (by rw [hCL]; rfl)
          have hk := hK.pure (.agg #[.iface 59 (.pointer (some p))]) hp.S
          clear hp hK hS
          go_simp
          exact hk
        · intro a wu γ nph K hp hK
          obtain ⟨e3a, e3b⟩ := hp.old_ 3 (.pointer (some ⟨w.heap.size, 0, none⟩))
          have hS : Sd wz3 [w.heap.size + 1 + 1 + 1] CL wu := hp.S
          have c0 := hS.at_ 0 ⟨w.heap.size, 0, none⟩ (.iface 59 (.pointer (some p))) (by rw [hCL]; rfl)
          have hk := hK.pure (.agg #[.iface 59 (.pointer (some p))]) hp.S
          clear hp hK hS
          go_simp
          exact hk
        · intro a wu γ nph K hp hK
          obtain ⟨e3a, e3b⟩ := hp.old_ 3 (.pointer (some ⟨w.heap.size, 0, none⟩))
          have hS : Sd wz3 [w.heap.size + 1 + 1 + 1] CL wu := hp.S
          have c0 := hS.at_ 0 ⟨w.heap.size, 0, none⟩ (.iface 59 (.pointer (some p))) (by rw [hCL]; rfl)
          have hk := hK.pure (.agg #[.iface 59 (.pointer (some p))]) hp.S
          clear hp hK hS
          go_simp
          exact hk
        · intro a wu γ nph K hp hK
          obtain ⟨e7a, e7b⟩ := hp.old_ 7 (.func (.func 70) #[.agg #[.iface 59 (.pointer (some p))]] #[])
          have hk := hK.pure (.func (.func 70) #[.agg #[.iface 59 (.pointer (some p))]] #[]) hp.S
          clear hp hK
          go_simp
          exact hk
        · intro a wu γ nph K hp hK
          obtain ⟨e4a, e4b⟩ := hp.old_ 4 (.pointer (some ⟨w.heap.size + 1, 0, none⟩))
          have hk := hK.pure (.pointer (some ⟨w.heap.size + 1, 3, none⟩)) hp.S
          clear hp hK
          go_simp
          exact hk
        · intro a wu γ nph K hp hK
          obtain ⟨e118a, e118b⟩ := hp.dep_ 118 42 (.pointer (some ⟨w.heap.size + 1, 3, none⟩))
          have hS : Sd wz3 [w.heap.size + 1 + 1 + 1] CL wu := hp.S
          have c4 := hS.at_ 4 ⟨w.heap.size + 1, 3, none⟩ (.int .i32 (q3).v) (by rw [hCL]; rfl)
          have hk := hK.pure (.int .i32 (q3).v) hp.S
          clear hp hK hS
          go_simp
          exact hk
        · intro a wu γ nph K hp hK
          obtain ⟨e9a, e9b⟩ := hp.old_ 9 (.int .i32 (pullF1 q0 q1 q2 q3 a1).v)
          have hk := hK.pure (.int .i32 (pullF1 q0 q1 q2 q3 a1).v) hp.S
          clear hp hK
          go_simp
          exact hk
        · intro a wu γ nph K hp hK
          obtain ⟨e117a, e117b⟩ := hp.dep_ 117 41 (.func (.func 70) #[.agg #[.iface 59 (.pointer (some p))]] #[])
          obtain ⟨e119a, e119b⟩ := hp.dep_ 119 43 (.int .i32 (q3).v)
          obtain ⟨e120a, e120b⟩ := hp.dep_ 120 44 (.int .i32 (pullF1 q0 q1 q2 q3 a1).v)
          have hS : Sd wz3 [w.heap.size + 1 + 1 + 1] CL wu := hp.S
          have hk := hK.call (.int .i32 (mulqW (q3) (pullF1 q0 q1 q2 q3 a1)).v)
          clear hp hK
          go_simp
          refine (w_mulq p _ _ _).mono ?_
          rintro e w7 ⟨rfl, hcX⟩
          exact hk _ (hS.call hcX) (Reg.keep_call _ rfl hcX)
        · intro a wu γ nph K hp hK
          obtain ⟨e7a, e7b⟩ := hp.old_ 7 (.func (.func 70) #[.agg #[.iface 59 (.pointer (some p))]] #[])
          have hk := hK.pure (.func (.func 70) #[.agg #[.iface 59 (.pointer (some p))]] #[]) hp.S
          clear hp hK
          go_simp
          exact hk
        · intro a wu γ nph K hp hK
          obtain ⟨e4a, e4b⟩ := hp.old_ 4 (.pointer (some ⟨w.heap.size + 1, 0, none⟩))
          have hk := hK.pure (.pointer (some ⟨w.heap.size + 1, 0, none⟩)) hp.S
          clear hp hK
          go_simp
          exact hk
        · intro a wu γ nph K hp hK
          obtain ⟨e123a, e123b⟩ := hp.dep_ 123 47 (.pointer (some ⟨w.heap.size + 1, 0, none⟩))
          have hS : Sd wz3 [w.heap.size + 1 + 1 + 1] CL wu := hp.S
          have c1 := hS.at_ 1 ⟨w.heap.size + 1, 0, none⟩ (.int .i32 (q0).v) (by rw [hCL]; rfl)
          have hk := hK.pure (.int .i32 (q0).v) hp.S
          clear hp hK hS
          go_simp
          exact hk
        · intro a wu γ nph K hp hK
          obtain ⟨e8a, e8b⟩ := hp.old_ 8 (.int .i32 (pullF0 q0 q1 q2 q3 a0).v)
          have hk := hK.pure (.int .i32 (pullF0 q0 q1 q2 q3 a0).v) hp.S
          clear hp hK
          go_simp
          exact hk
        · intro a wu γ nph K hp hK
          obtain ⟨e122a, e122b⟩ := hp.dep_ 122 46 (.func (.func 70) #[.agg #[.iface 59 (.pointer (some p))]] #[])
          obtain ⟨e124a, e124b⟩ := hp.dep_ 124 48 (.int .i32 (q0).v)
          obtain ⟨e125a, e125b⟩ := hp.dep_ 125 49 (.int .i32 (pullF0 q0 q1 q2 q3 a0).v)
          have hS : Sd wz3 [w.heap.size + 1 + 1 + 1] CL wu := hp.S
          have hk := hK.call (.int .i32 (mulqW (q0) (pullF0 q0 q1 q2 q3 a0)).v)
          clear hp hK
          go_simp
          refine (w_mulq p _ _ _).mono ?_
          rintro e w7 ⟨rfl, hcX⟩
          exact hk _ (hS.call hcX) (Reg.keep_call _ rfl hcX)
        · intro a wu γ nph K hp hK
          obtain ⟨e126a, e126b⟩ := hp.dep_ 126 50 (.int .i32 (mulqW (q0) (pullF0 q0 q1 q2 q3 a0)).v)
          have hk := hK.new 21 [.int .i32 (mulqW (q0) (pullF0 q0 q1 q2 q3 a0)).v] (fun g => .slice (some ⟨g, 0, none⟩) 1 1)
          clear hp hK
          go_simp
          exact hk
        · intro a wu γ nph K hp hK
          obtain ⟨e116a, e116b⟩ := hp.dep_ 116 40 (.agg #[.iface 59 (.pointer (some p))])
          obtain ⟨e121a, e121b⟩ := hp.dep_ 121 45 (.int .i32 (mulqW (q3) (pullF1 q0 q1 q2 q3 a1)).v)
          obtain ⟨e127a, e127b⟩ := hp.dep_ 127 51 (.slice (some ⟨γ 51, 0, none⟩) 1 1)
          have hS : Sd wz3 [w.heap.size + 1 + 1 + 1] CL wu := hp.S
          have nb51 : Blk wu (γ 51) 21 [.int .i32 (mulqW (q0) (pullF0 q0 q1 q2 q3 a0)).v] := (hp.blk_ 51 (T := 21) (c := [.int .i32 (mulqW (q0) (pullF0 q0 q1 q2 q3 a0)).v])).1
          have hk := hK.call (.int .i32 (lessW (mulqW (q3) (pullF1 q0 q1 q2 q3 a1)) [mulqW (q0) (pullF0 q0 q1 q2 q3 a0)]).v)
          clear hp hK
          go_simp
          refine (wless_calls p _ [mulqW (q0) (pullF0 q0 q1 q2 q3 a0)] _ _ (Sl.blk' (show Blk wu (γ 51) 21 (wds [mulqW (q0) (pullF0 q0 q1 q2 q3 a0)]) from nb51) rfl (Nat.le_refl _)) (by simp)).mono ?_
          rintro e w7 ⟨rfl, hcX⟩
          exact hk _ (hS.call hcX) (Reg.keep_call _ rfl hcX)
        · intro a wu γ nph K hp hK
          obtain ⟨e115a, e115b⟩ := hp.dep_ 115 39 (.agg #[.iface 59 (.pointer (some p))])
          obtain ⟨e128a, e128b⟩ := hp.dep_ 128 52 (.int .i32 (lessW (mulqW (q3) (pullF1 q0 q1 q2 q3 a1)) [mulqW (q0) (pullF0 q0 q1 q2 q3 a0)]).v)
          have hS : Sd wz3 [w.heap.size + 1 + 1 + 1] CL wu := hp.S
          have hk := hK.call (.int .i32 (downW (lessW (mulqW (q3) (pullF1 q0 q1 q2 q3 a1)) [mulqW (q0) (pullF0 q0 q1 q2 q3 a0)]) (1)).v)
          clear hp hK
          go_simp
          refine (w_down p _ _ _ (by decide)).mono ?_
          rintro e w7 ⟨rfl, hcX⟩
          exact hk _ (hS.call hcX) (Reg.keep_call _ rfl hcX)
        · intro a wu γ nph K hp hK
          obtain ⟨e7a, e7b⟩ := hp.old_ 7 (.func (.func 70) #[.agg #[.iface 59 (.pointer (some p))]] #[])
          have hk := hK.pure (.func (.func 70) #[.agg #[.iface 59 (.pointer (some p))]] #[]) hp.S
          clear hp hK
          go_simp
          exact hk
        · intro a wu γ nph K hp hK
          obtain ⟨e4a, e4b⟩ := hp.old_ 4 (.pointer (some ⟨w.heap.size + 1, 0, none⟩))
          have hk := hK.pure (.pointer (some ⟨w.heap.size + 1, 2, none⟩)) hp.S
          clear hp hK
          go_simp
          exact hk
        · intro a wu γ nph K hp hK
          obtain ⟨e131a, e131b⟩ := hp.dep_ 131 55 (.pointer (some ⟨w.heap.size + 1, 2, none⟩))
          have hS : Sd wz3 [w.heap.size + 1 + 1 + 1] CL wu := hp.S
          have c3 := hS.at_ 3 ⟨w.heap.size + 1, 2, none⟩ (.int .i32 (q2).v) (by rw [hCL]; rfl)
          have hk := hK.pure (.int .i32 (q2).v) hp.S
          clear hp hK hS
          go_simp
          exact hk
        · intro a wu γ nph K hp hK
          obtain ⟨e10a, e10b⟩ := hp.old_ 10 (.int .i32 (pullF2 q1 q2 a2).v)
          have hk := hK.pure (.int .i32 (pullF2 q1 q2 a2).v) hp.S
          clear hp hK
          go_simp
          exact hk
        · intro a wu γ nph K hp hK
          obtain ⟨e130a, e130b⟩ := hp.dep_ 130 54 (.func (.func 70) #[.agg #[.iface 59 (.pointer (some p))]] #[])
          obtain ⟨e132a, e132b⟩ := hp.dep_ 132 56 (.int .i32 (q2).v)
          obtain ⟨e133a, e133b⟩ := hp.dep_ 133 57 (.int .i32 (pullF2 q1 q2 a2).v)
          have hS : Sd wz3 [w.heap.size + 1 + 1 + 1] CL wu := hp.S
          have hk := hK.call (.int .i32 (mulqW (q2) (pullF2 q1 q2 a2)).v)
          clear hp hK
          go_simp
          refine (w_mulq p _ _ _).mono ?_
          rintro e w7 ⟨rfl, hcX⟩
          exact hk _ (hS.call hcX) (Reg.keep_call _ rfl hcX)
        · intro a wu γ nph K hp hK
          obtain ⟨e134a, e134b⟩ := hp.dep_ 134 58 (.int .i32 (mulqW (q2) (pullF2 q1 q2 a2)).v)
          have hk := hK.new 21 [.int .i32 (mulqW (q2) (pullF2 q1 q2 a2)).v] (fun g => .slice (some ⟨g, 0, none⟩) 1 1)
          clear hp hK
          go_simp
          exact hk
        · intro a wu γ nph K hp hK
          obtain ⟨e114a, e114b⟩ := hp.dep_ 114 38 (.agg #[.iface 59 (.pointer (some p))])
          obtain ⟨e129a, e129b⟩ := hp.dep_ 129 53 (.int .i32 (downW (lessW (mulqW (q3) (pullF1 q0 q1 q2 q3 a1)) [mulqW (q0) (pullF0 q0 q1 q2 q3 a0)]) (1)).v)
          obtain ⟨e135a, e135b⟩ := hp.dep_ 135 59 (.slice (some ⟨γ 59, 0, none⟩) 1 1)
          have hS : Sd wz3 [w.heap.size + 1 + 1 + 1] CL wu := hp.S
          have nb59 : Blk wu (γ 59) 21 [.int .i32 (mulqW (q2) (pullF2 q1 q2 a2)).v] := (hp.blk_ 59 (T := 21) (c := [.int .i32 (mulqW (q2) (pullF2 q1 q2 a2)).v])).1
          have hk := hK.call (.int .i32 (lessW (downW (lessW (mulqW (q3) (pullF1 q0 q1 q2 q3 a1)) [mulqW (q0) (pullF0 q0 q1 q2 q3 a0)]) (1)) [mulqW (q2) (pullF2 q1 q2 a2)]).v)
          clear hp hK
          go_simp
          refine (wless_calls p _ [mulqW (q2) (pullF2 q1 q2 a2)] _ _ (Sl.blk' (show Blk wu (γ 59) 21 (wds [mulqW (q2) (pullF2 q1 q2 a2)]) from nb59) rfl (Nat.le_refl _)) (by simp)).mono ?_
          rintro e w7 ⟨rfl, hcX⟩
          exact hk _ (hS.call hcX) (Reg.keep_call _ rfl hcX)
        · intro a wu γ nph K hp hK
          obtain ⟨e3a, e3b⟩ := hp.old_ 3 (.pointer (some ⟨w.heap.size, 0, none⟩))
          have hS : Sd wz3 [w.heap.size + 1 + 1 + 1] CL wu := hp.S
          have c0 := hS.at_ 0 ⟨w.heap.size, 0, none⟩ (.iface 59 (.pointer (some p))) (by rw [hCL]; rfl)
          have hk := hK.pure (.agg #[.iface 59 (.pointer (some p))]) hp.S
          clear hp hK hS
          go_simp
          exact hk
        · intro a wu γ nph K hp hK
          obtain ⟨e3a, e3b⟩ := hp.old_ 3 (.pointer (some ⟨w.heap.size, 0, none⟩))
          have hS : Sd wz3 [w.heap.size + 1 + 1 + 1] CL wu := hp.S
          have c0 := hS.at_ 0 ⟨w.heap.size, 0, none⟩ (.iface 59 (.pointer (some p))) (by rw [hCL]; rfl)
          have hk := hK.pure (.agg #[.iface 59 (.pointer (some p))]) hp.S
          clear hp hK hS
          go_simp
          exact hk
        · intro a wu γ nph K hp hK
          obtain ⟨e7a, e7b⟩ := hp.old_ 7 (.func (.func 70) #[.agg #[.iface 59 (.pointer (some p))]] #[])
          have hk := hK.pure (.func (.func 70) #[.agg #[.iface 59 (.pointer (some p))]] #[]) hp.S
          clear hp hK
          go_simp
          exact hk
        · intro a wu γ nph K hp hK
          obtain ⟨e4a, e4b⟩ := hp.old_ 4 (.pointer (some ⟨w.heap.size + 1, 0, none⟩))
          have hk := hK.pure (.pointer (some ⟨w.heap.size + 1, 1, none⟩)) hp.S
          clear hp hK
          go_simp
          exact hk
        · intro a wu γ nph K hp hK
          obtain ⟨e140a, e140b⟩ := hp.dep_ 140 64 (.pointer (some ⟨w.heap.size + 1, 1, none⟩))
          have hS : Sd wz3 [w.heap.size + 1 + 1 + 1] CL wu := hp.S
          have c2 := hS.at_ 2 ⟨w.heap.size + 1, 1, none⟩ (.int .i32 (q1).v) (by rw [hCL]; rfl)
          have hk := hK.pure (.int .i32 (q1).v) hp.S
          clear hp hK hS
          go_simp
          exact hk
        · intro a wu γ nph K hp hK
          obtain ⟨e8a, e8b⟩ := hp.old_ 8 (.int .i32 (pullF0 q0 q1 q2 q3 a0).v)
          have hk := hK.pure (.int .i32 (pullF0 q0 q1 q2 q3 a0).v) hp.S
          clear hp hK
          go_simp
          exact hk
        · intro a wu γ nph K hp hK
          obtain ⟨e139a, e139b⟩ := hp.dep_ 139 63 (.func (.func 70) #[.agg #[.iface 59 (.pointer (some p))]] #[])
          obtain ⟨e141a, e141b⟩ := hp.dep_ 141 65 (.int .i32 (q1).v)
          obtain ⟨e142a, e142b⟩ := hp.dep_ 142 66 (.int .i32 (pullF0 q0 q1 q2 q3 a0).v)
          have hS : Sd wz3 [w.heap.size + 1 + 1 + 1] CL wu := hp.S
          have hk := hK.call (.int .i32 (mulqW (q1) (pullF0 q0 q1 q2 q3 a0)).v)
          clear hp hK
          go_simp
          refine (w_mulq p _ _ _).mono ?_
          rintro e w7 ⟨rfl, hcX⟩
          exact hk _ (hS.call hcX) (Reg.keep_call _ rfl hcX)
        · intro a wu γ nph K hp hK
          obtain ⟨e7a, e7b⟩ := hp.old_ 7 (.func (.func 70) #[.agg #[.iface 59 (.pointer (some p))]] #[])
          have hk := hK.pure (.func (.func 70) #[.agg #[.iface 59 (.pointer (some p))]] #[]) hp.S
          clear hp hK
          go_simp
          exact hk
        · intro a wu γ nph K hp hK
          obtain ⟨e4a, e4b⟩ := hp.old_ 4 (.pointer (some ⟨w.heap.size + 1, 0, none⟩))
          have hk := hK.pure (.pointer (some ⟨w.heap.size + 1, 2, none⟩)) hp.S
          clear hp hK
          go_simp
          exact hk
        · intro a wu γ nph K hp hK
          obtain ⟨e145a, e145b⟩ := hp.dep_ 145 69 (.pointer (some ⟨w.heap.size + 1, 2, none⟩))
          have hS : Sd wz3 [w.heap.size + 1 + 1 + 1] CL wu := hp.S
          have c3 := hS.at_ 3 ⟨w.heap.size + 1, 2, none⟩ (.int .i32 (q2).v) (by rw [hCL]; rfl)
          have hk := hK.pure (.int .i32 (q2).v) hp.S
          clear hp hK hS
          go_simp
          exact hk
        · intro a wu γ nph K hp hK
          obtain ⟨e9a, e9b⟩ := hp.old_ 9 (.int .i32 (pullF1 q0 q1 q2 q3 a1).v)
          have hk := hK.pure (.int .i32 (pullF1 q0 q1 q2 q3 a1).v) hp.S
          clear hp hK
          go_simp
          exact hk
        · intro a wu γ nph K hp hK
          obtain ⟨e144a, e144b⟩ := hp.dep_ 144 68 (.func (.func 70) #[.agg #[.iface 59 (.pointer (some p))]] #[])
          obtain ⟨e146a, e146b⟩ := hp.dep_ 146 70 (.int .i32 (q2).v)
          obtain ⟨e147a, e147b⟩ := hp.dep_ 147 71 (.int .i32 (pullF1 q0 q1 q2 q3 a1).v)
          have hS : Sd wz3 [w.heap.size + 1 + 1 + 1] CL wu := hp.S
          have hk := hK.call (.int .i32 (mulqW (q2) (pullF1 q0 q1 q2 q3 a1)).v)
          clear hp hK
          go_simp
          refine (w_mulq p _ _ _).mono ?_
          rintro e w7 ⟨rfl, hcX⟩
          exact hk _ (hS.call hcX) (Reg.keep_call _ rfl hcX)
        · intro a wu γ nph K hp hK
          obtain ⟨e148a, e148b⟩ := hp.dep_ 148 72 (.int .i32 (mulqW (q2) (pullF1 q0 q1 q2 q3 a1)).v)
          have hk := hK.new 21 [.int .i32 (mulqW (q2) (pullF1 q0 q1 q2 q3 a1)).v] (fun g => .slice (some ⟨g, 0, none⟩) 1 1)
          clear hp hK
          go_simp
          exact hk
        · intro a wu γ nph K hp hK
          obtain ⟨e138a, e138b⟩ := hp.dep_ 138 62 (.agg #[.iface 59 (.pointer (some p))])
          obtain ⟨e143a, e143b⟩ := hp.dep_ 143 67 (.int .i32 (mulqW (q1) (pullF0 q0 q1 q2 q3 a0)).v)
          obtain ⟨e149a, e149b⟩ := hp.dep_ 149 73 (.slice (some ⟨γ 73, 0, none⟩) 1 1)
          have hS : Sd wz3 [w.heap.size + 1 + 1 + 1] CL wu := hp.S
          have nb73 : Blk wu (γ 73) 21 [.int .i32 (mulqW (q2) (pullF1 q0 q1 q2 q3 a1)).v] := (hp.blk_ 73 (T := 21) (c := [.int .i32 (mulqW (q2) (pullF1 q0 q1 q2 q3 a1)).v])).1
          have hk := hK.call (.int .i32 (moreW (mulqW (q1) (pullF0 q0 q1 q2 q3 a0)) [mulqW (q2) (pullF1 q0 q1 q2 q3 a1)]).v)
          clear hp hK
          go_simp
          refine (wmore_calls p _ [mulqW (q2) (pullF1 q0 q1 q2 q3 a1)] _ _ (Sl.blk' (show Blk wu (γ 73) 21 (wds [mulqW (q2) (pullF1 q0 q1 q2 q3 a1)]) from nb73) rfl (Nat.le_refl _)) (by simp)).mono ?_
          rintro e w7 ⟨rfl, hcX⟩
          exact hk _ (hS.call hcX) (Reg.keep_call _ rfl hcX)
        · intro a wu γ nph K hp hK
          obtain ⟨e137a, e137b⟩ := hp.dep_ 137 61 (.agg #[.iface 59 (.pointer (some p))])
          obtain ⟨e150a, e150b⟩ := hp.dep_ 150 74 (.int .i32 (moreW (mulqW (q1) (pullF0 q0 q1 q2 q3 a0)) [mulqW (q2) (pullF1 q0 q1 q2 q3 a1)]).v)
          have hS : Sd wz3 [w.heap.size + 1 + 1 + 1] CL wu := hp.S
          have hk := hK.call (.int .i32 (downW (moreW (mulqW (q1) (pullF0 q0 q1 q2 q3 a0)) [mulqW (q2) (pullF1 q0 q1 q2 q3 a1)]) (1)).v)
          clear hp hK
          go_simp
          refine (w_down p _ _ _ (by decide)).mono ?_
          rintro e w7 ⟨rfl, hcX⟩
          exact hk _ (hS.call hcX) (Reg.keep_call _ rfl hcX)
        · intro a wu γ nph K hp hK
          obtain ⟨e90a, e90b⟩ := hp.dep_ 90 14 (.int .i32 (downW (lessW (mulqW (q1) (pullF1 q0 q1 q2 q3 a1)) [mulqW (q2) (pullF0 q0 q1 q2 q3 a0)]) (1)).v)
          obtain ⟨e113a, e113b⟩ := hp.dep_ 113 37 (.int .i32 (lessW (downW (moreW (mulqW (q3) (pullF0 q0 q1 q2 q3 a0)) [mulqW (q0) (pullF1 q0 q1 q2 q3 a1)]) (1)) [mulqW (q1) (pullF2 q1 q2 a2)]).v)
          obtain ⟨e136a, e136b⟩ := hp.dep_ 136 60 (.int .i32 (lessW (downW (lessW (mulqW (q3) (pullF1 q0 q1 q2 q3 a1)) [mulqW (q0) (pullF0 q0 q1 q2 q3 a0)]) (1)) [mulqW (q2) (pullF2 q1 q2 a2)]).v)
          obtain ⟨e151a, e151b⟩ := hp.dep_ 151 75 (.int .i32 (downW (moreW (mulqW (q1) (pullF0 q0 q1 q2 q3 a0)) [mulqW (q2) (pullF1 q0 q1 q2 q3 a1)]) (1)).v)
          have hk := hK.pure (.agg #[.int .i32 (downW (lessW (mulqW (q1) (pullF1 q0 q1 q2 q3 a1)) [mulqW (q2) (pullF0 q0 q1 q2 q3 a0)]) (1)).v, .int .i32 (lessW (downW (moreW (mulqW (q3) (pullF0 q0 q1 q2 q3 a0)) [mulqW (q0) (pullF1 q0 q1 q2 q3 a1)]) (1)) [mulqW (q1) (pullF2 q1 q2 a2)]).v, .int .i32 (lessW (downW (lessW (mulqW (q3) (pullF1 q0 q1 q2 q3 a1)) [mulqW (q0) (pullF0 q0 q1 q2 q3 a0)]) (1)) [mulqW (q2) (pullF2 q1 q2 a2)]).v, .int .i32 (downW (moreW (mulqW (q1) (pullF0 q0 q1 q2 q3 a0)) [mulqW (q2) (pullF1 q0 q1 q2 q3 a1)]) (1)).v]) hp.S
          clear hp hK
          go_simp
          exact hk
        · intro a wu γ nph K hp hK
          obtain ⟨e6a, e6b⟩ := hp.old_ 6 (.pointer (some ⟨w.heap.size + 1 + 1 + 1, 0, none⟩))
          obtain ⟨e152a, e152b⟩ := hp.dep_ 152 76 (.agg #[.int .i32 (downW (lessW (mulqW (q1) (pullF1 q0 q1 q2 q3 a1)) [mulqW (q2) (pullF0 q0 q1 q2 q3 a0)]) (1)).v, .int .i32 (lessW (downW (moreW (mulqW (q3) (pullF0 q0 q1 q2 q3 a0)) [mulqW (q0) (pullF1 q0 q1 q2 q3 a1)]) (1)) [mulqW (q1) (pullF2 q1 q2 a2)]).v, .int .i32 (lessW (downW (lessW (mulqW (q3) (pullF1 q0 q1 q2 q3 a1)) [mulqW (q0) (pullF0 q0 q1 q2 q3 a0)]) (1)) [mulqW (q2) (pullF2 q1 q2 a2)]).v, .int .i32 (downW (moreW (mulqW (q1) (pullF0 q0 q1 q2 q3 a0)) [mulqW (q2) (pullF1 q0 q1 q2 q3 a1)]) (1)).v])
          have hb := (hp.blk_ 78 (T := 27) (c := [.int .i32 0, .int .i32 0, .int .i32 0, .int .i32 0])).1
          have hk := hK.put 78 27 [.int .i32 0, .int .i32 0, .int .i32 0, .int .i32 0] [.int .i32 (downW (lessW (mulqW (q1) (pullF1 q0 q1 q2 q3 a1)) [mulqW (q2) (pullF0 q0 q1 q2 q3 a0)]) (1)).v, .int .i32 (lessW (downW (moreW (mulqW (q3) (pullF0 q0 q1 q2 q3 a0)) [mulqW (q0) (pullF1 q0 q1 q2 q3 a1)]) (1)) [mulqW (q1) (pullF2 q1 q2 a2)]).v, .int .i32 (lessW (downW (lessW (mulqW (q3) (pullF1 q0 q1 q2 q3 a1)) [mulqW (q0) (pullF0 q0 q1 q2 q3 a0)]) (1)) [mulqW (q2) (pullF2 q1 q2 a2)]).v, .int .i32 (downW (moreW (mulqW (q1) (pullF0 q0 q1 q2 q3 a0)) [mulqW (q2) (pullF1 q0 q1 q2 q3 a1)]) (1)).v]
          have hO : γ 78 = w.heap.size + 1 + 1 + 1 := hp.old 78 (Nat.le_trans (Nat.le_of_eq (by kernel_rfl : _ = 78)) (by decide : 78 ≤ 78))
          rw [hO] at hb hk
          have z0 := hb.cell' (i := 0) rfl
          have f0 := hb.frozen 0
          have z1 := hb.cell' (i := 1) rfl
          have f1 := hb.frozen 1
          have z2 := hb.cell' (i := 2) rfl
          have f2 := hb.frozen 2
          have z3 := hb.cell' (i := 3) rfl
          have f3 := hb.frozen 3
          clear hp hK
          clear hO
          go_simp
          exact hk _ ((((hb.set_ 0 _).set_ 1 _).set_ 2 _).set_ 3 _) (((((Chg.refl wu _).setCell _ _ (.inl (by simp))).setCell _ _ (.inl (by simp))).setCell _ _ (.inl (by simp))).setCell _ _ (.inl (by simp))) (by simp)
      · intro a wu γ nph K hp hK
        obtain ⟨e3a, e3b⟩ := hp.old_ 3 (.pointer (some ⟨w.heap.size, 0, none⟩))
        have hS : Sd wz2 [w.heap.size + 1 + 1 + 1] CL wu := hp.S
        have c0 := hS.at_ 0 ⟨w.heap.size, 0, none⟩ (.iface 59 (.pointer (some p))) (by rw [hCL]; rfl)
        have hk := hK.pure (.agg #[.iface 59 (.pointer (some p))]) hp.S
        clear hp hK hS
        go_simp
        exact hk
      · intro a wu γ nph K hp hK
        obtain ⟨e3a, e3b⟩ := hp.old_ 3 (.pointer (some ⟨w.heap.size, 0, none⟩))
        have hk := hK.pure (.pointer (some ⟨w.heap.size, 0, none⟩)) hp.S
        clear hp hK
        go_simp
        exact hk
      · intro a wu γ nph K hp hK
        obtain ⟨e55a, e55b⟩ := hp.dep_ 55 1 (.pointer (some ⟨w.heap.size, 0, none⟩))
        have hS : Sd wz2 [w.heap.size + 1 + 1 + 1] CL wu := hp.S
        have c0 := hS.at_ 0 ⟨w.heap.size, 0, none⟩ (.iface 59 (.pointer (some p))) (by rw [hCL]; rfl)
        have hk := hK.pure (.iface 59 (.pointer (some p))) hp.S
        clear hp hK hS
        go_simp
        exact hk
      · intro a wu γ nph K hp hK
        obtain ⟨e56a, e56b⟩ := hp.dep_ 56 2 (.iface 59 (.pointer (some p)))
        have hS : Sd wz2 [w.heap.size + 1 + 1 + 1] CL wu := hp.S
        have hk := hK.call (.int .i32 (kW (536870912)).v)
        clear hp hK
        go_simp
        refine (w_const p _ _ (by first | assumption | decide)).mono ?_
        rintro e w7 ⟨rfl, hcX⟩
        exact hk _ (hS.call hcX) (Reg.keep_call _ rfl hcX)
      · intro a wu γ nph K hp hK
        obtain ⟨e7a, e7b⟩ := hp.old_ 7 (.func (.func 70) #[.agg #[.iface 59 (.pointer (some p))]] #[])
        have hk := hK.pure (.func (.func 70) #[.agg #[.iface 59 (.pointer (some p))]] #[]) hp.S
        clear hp hK
        go_simp
        exact hk
      · intro a wu γ nph K hp hK
        obtain ⟨e4a, e4b⟩ := hp.old_ 4 (.pointer (some ⟨w.heap.size + 1, 0, none⟩))
        have hk := hK.pure (.pointer (some ⟨w.heap.size + 1, 1, none⟩)) hp.S
        clear hp hK
        go_simp
        exact hk
      · intro a wu γ nph K hp hK
        obtain ⟨e59a, e59b⟩ := hp.dep_ 59 5 (.pointer (some ⟨w.heap.size + 1, 1, none⟩))
        have hS : Sd wz2 [w.heap.size + 1 + 1 + 1] CL wu := hp.S
        have c2 := hS.at_ 2 ⟨w.heap.size + 1, 1, none⟩ (.int .i32 (q1).v) (by rw [hCL]; rfl)
        have hk := hK.pure (.int .i32 (q1).v) hp.S
        clear hp hK hS
        go_simp
        exact hk
      · intro a wu γ nph K hp hK
        obtain ⟨e4a, e4b⟩ := hp.old_ 4 (.pointer (some ⟨w.heap.size + 1, 0, none⟩))
        have hk := hK.pure (.pointer (some ⟨w.heap.size + 1, 1, none⟩)) hp.S
        clear hp hK
        go_simp
        exact hk
      · intro a wu γ nph K hp hK
        obtain ⟨e61a, e61b⟩ := hp.dep_ 61 7 (.pointer (some ⟨w.heap.size + 1, 1, none⟩))
        have hS : Sd wz2 [w.heap.size + 1 + 1 + 1] CL wu := hp.S
        have c2 := hS.at_ 2 ⟨w.heap.size + 1, 1, none⟩ (.int .i32 (q1).v) (by rw [hCL]; rfl)
        have hk := hK.pure (.int .i32 (q1).v) hp.S
        clear hp hK hS
        go_simp
        exact hk
      · intro a wu γ nph K hp hK
        obtain ⟨e58a, e58b⟩ := hp.dep_ 58 4 (.func (.func 70) #[.agg #[.iface 59 (.pointer (some p))]] #[])
        obtain ⟨e60a, e60b⟩ := hp.dep_ 60 6 (.int .i32 (q1).v)
        obtain ⟨e62a, e62b⟩ := hp.dep_ 62 8 (.int .i32 (q1).v)
        have hS : Sd wz2 [w.heap.size + 1 + 1 + 1] CL wu := hp.S
        have hk := hK.call (.int .i32 (mulqW (q1) (q1)).v)
        clear hp hK
        go_simp
        refine (w_mulq p _ _ _).mono ?_
        rintro e w7 ⟨rfl, hcX⟩
        exact hk _ (hS.call hcX) (Reg.keep_call _ rfl hcX)
      · intro a wu γ nph K hp hK
        obtain ⟨e7a, e7b⟩ := hp.old_ 7 (.func (.func 70) #[.agg #[.iface 59 (.pointer (some p))]] #[])
        have hk := hK.pure (.func (.func 70) #[.agg #[.iface 59 (.pointer (some p))]] #[]) hp.S
        clear hp hK
        go_simp
        exact hk
      · intro a wu γ nph K hp hK
        obtain ⟨e4a, e4b⟩ := hp.old_ 4 (.pointer (some ⟨w.heap.size + 1, 0, none⟩))
        have hk := hK.pure (.pointer (some ⟨w.heap.size + 1, 2, none⟩)) hp.S
        clear hp hK
        go_simp
        exact hk
      · intro a wu γ nph K hp hK
        obtain ⟨e65a, e65b⟩ := hp.dep_ 65 11 (.pointer (some ⟨w.heap.size + 1, 2, none⟩))
        have hS : Sd wz2 [w.heap.size + 1 + 1 + 1] CL wu := hp.S
        have c3 := hS.at_ 3 ⟨w.heap.size + 1, 2, none⟩ (.int .i32 (q2).v) (by rw [hCL]; rfl)
        have hk := hK.pure (.int .i32 (q2).v) hp.S
        clear hp hK hS
        go_simp
        exact hk
      · intro a wu γ nph K hp hK
        obtain ⟨e4a, e4b⟩ := hp.old_ 4 (.pointer (some ⟨w.heap.size + 1, 0, none⟩))
        have hk := hK.pure (.pointer (some ⟨w.heap.size + 1, 2, none⟩)) hp.S
        clear hp hK
        go_simp
        exact hk
      · intro a wu γ nph K hp hK
        obtain ⟨e67a, e67b⟩ := hp.dep_ 67 13 (.pointer (some ⟨w.heap.size + 1, 2, none⟩))
        have hS : Sd wz2 [w.heap.size + 1 + 1 + 1] CL wu := hp.S
        have c3 := hS.at_ 3 ⟨w.heap.size + 1, 2, none⟩ (.int .i32 (q2).v) (by rw [hCL]; rfl)
        have hk := hK.pure (.int .i32 (q2).v) hp.S
        clear hp hK hS
        go_simp
        exact hk
      · intro a wu γ nph K hp hK
        obtain ⟨e64a, e64b⟩ := hp.dep_ 64 10 (.func (.func 70) #[.agg #[.iface 59 (.pointer (some p))]] #[])
        obtain ⟨e66a, e66b⟩ := hp.dep_ 66 12 (.int .i32 (q2).v)
        obtain ⟨e68a, e68b⟩ := hp.dep_ 68 14 (.int .i32 (q2).v)
        have hS : Sd wz2 [w.heap.size + 1 + 1 + 1] CL wu := hp.S
        have hk := hK.call (.int .i32 (mulqW (q2) (q2)).v)
        clear hp hK
        go_simp
        refine (w_mulq p _ _ _).mono ?_
        rintro e w7 ⟨rfl, hcX⟩
        exact hk _ (hS.call hcX) (Reg.keep_call _ rfl hcX)
      · intro a wu γ nph K hp hK
        obtain ⟨e3a, e3b⟩ := hp.old_ 3 (.pointer (some ⟨w.heap.size, 0, none⟩))
        have hS : Sd wz2 [w.heap.size + 1 + 1 + 1] CL wu := hp.S
        have c0 := hS.at_ 0 ⟨w.heap.size, 0, none⟩ (.iface 59 (.pointer (some p))) (by rw [hCL]; rfl)
        have hk := hK.pure (.agg #[.iface 59 (.pointer (some p))]) hp.S
        clear hp hK hS
        go_simp
        exact hk
      · intro a wu γ nph K hp hK
        obtain ⟨e5a, e5b⟩ := hp.old_ 5 (.pointer (some ⟨w.heap.size + 1 + 1, 0, none⟩))
        have hk := hK.pure (.pointer (some ⟨w.heap.size + 1 + 1, 2, none⟩)) hp.S
        clear hp hK
        go_simp
        exact hk
      · intro a wu γ nph K hp hK
        obtain ⟨e71a, e71b⟩ := hp.dep_ 71 17 (.pointer (some ⟨w.heap.size + 1 + 1, 2, none⟩))
        have hS : Sd wz2 [w.heap.size + 1 + 1 + 1] CL wu := hp.S
        have c7 := hS.at_ 7 ⟨w.heap.size + 1 + 1, 2, none⟩ (.int .i32 (a2).v) (by rw [hCL]; rfl)
        have hk := hK.pure (.int .i32 (a2).v) hp.S
        clear hp hK hS
        go_simp
        exact hk
      · intro a wu γ nph K hp hK
        obtain ⟨e70a, e70b⟩ := hp.dep_ 70 16 (.agg #[.iface 59 (.pointer (some p))])
        obtain ⟨e72a, e72b⟩ := hp.dep_ 72 18 (.int .i32 (a2).v)
        have hS : Sd wz2 [w.heap.size + 1 + 1 + 1] CL wu := hp.S
        have hk := hK.call (.int .i32 (downW (a2) (1)).v)
        clear hp hK
        go_simp
        refine (w_down p _ _ _ (by decide)).mono ?_
        rintro e w7 ⟨rfl, hcX⟩
        exact hk _ (hS.call hcX) (Reg.keep_call _ rfl hcX)
      · intro a wu γ nph K hp hK
        obtain ⟨e63a, e63b⟩ := hp.dep_ 63 9 (.int .i32 (mulqW (q1) (q1)).v)
        obtain ⟨e69a, e69b⟩ := hp.dep_ 69 15 (.int .i32 (mulqW (q2) (q2)).v)
        obtain ⟨e73a, e73b⟩ := hp.dep_ 73 19 (.int .i32 (downW (a2) (1)).v)
        have hk := hK.new 21 [.int .i32 (mulqW (q1) (q1)).v, .int .i32 (mulqW (q2) (q2)).v, .int .i32 (downW (a2) (1)).v] (fun g => .slice (some ⟨g, 0, none⟩) 3 3)
        clear hp hK
        go_simp
        exact hk
      · intro a wu γ nph K hp hK
        obtain ⟨e54a, e54b⟩ := hp.dep_ 54 0 (.agg #[.iface 59 (.pointer (some p))])
        obtain ⟨e57a, e57b⟩ := hp.dep_ 57 3 (.int .i32 (kW (536870912)).v)
        obtain ⟨e74a, e74b⟩ := hp.dep_ 74 20 (.slice (some ⟨γ 20, 0, none⟩) 3 3)
        have hS : Sd wz2 [w.heap.size + 1 + 1 + 1] CL wu := hp.S
        have nb20 : Blk wu (γ 20) 21 [.int .i32 (mulqW (q1) (q1)).v, .int .i32 (mulqW (q2) (q2)).v, .int .i32 (downW (a2) (1)).v] := (hp.blk_ 20 (T := 21) (c := [.int .i32 (mulqW (q1) (q1)).v, .int .i32 (mulqW (q2) (q2)).v, .int .i32 (downW (a2) (1)).v])).1
        have hk := hK.call (.int .i32 (lessW (kW (536870912)) [mulqW (q1) (q1), mulqW (q2) (q2), downW (a2) (1)]).v)
        clear hp hK
        go_simp
        refine (wless_calls p _ [mulqW (q1) (q1), mulqW (q2) (q2), downW (a2) (1)] _ _ (Sl.blk' (show Blk wu (γ 20) 21 (wds [mulqW (q1) (q1), mulqW (q2) (q2), downW (a2) (1)]) from nb20) rfl (Nat.le_refl _)) (by simp)).mono ?_
        rintro e w7 ⟨rfl, hcX⟩
        exact hk _ (hS.call hcX) (Reg.keep_call _ rfl hcX)
      · intro a wu γ nph K hp hK
        obtain ⟨e75a, e75b⟩ := hp.dep_ 75 21 (.int .i32 (lessW (kW (536870912)) [mulqW (q1) (q1), mulqW (q2) (q2), downW (a2) (1)]).v)
        have hk := hK.pure (.int .i32 (lessW (kW (536870912)) [mulqW (q1) (q1), mulqW (q2) (q2), downW (a2) (1)]).v) hp.S
        clear hp hK
        go_simp
        exact hk
    · intro a wu γ nph K hp hK
      obtain ⟨e3a, e3b⟩ := hp.old_ 3 (.pointer (some ⟨w.heap.size, 0, none⟩))
      have hS : Sd wz1 [w.heap.size + 1 + 1 + 1] CL wu := hp.S
      have c0 := hS.at_ 0 ⟨w.heap.size, 0, none⟩ (.iface 59 (.pointer (some p))) (by rw [hCL]; rfl)
      have hk := hK.pure (.agg #[.iface 59 (.pointer (some p))]) hp.S
      clear hp hK hS
      go_simp
      exact hk
    · intro a wu γ nph K hp hK
      obtain ⟨e3a, e3b⟩ := hp.old_ 3 (.pointer (some ⟨w.heap.size, 0, none⟩))
      have hS : Sd wz1 [w.heap.size + 1 + 1 + 1] CL wu := hp.S
      have c0 := hS.at_ 0 ⟨w.heap.size, 0, none⟩ (.iface 59 (.pointer (some p))) (by rw [hCL]; rfl)
      have hk := hK.pure (.agg #[.iface 59 (.pointer (some p))]) hp.S
      clear hp hK hS
      go_simp
      exact hk
    · intro a wu γ nph K hp hK
      obtain ⟨e7a, e7b⟩ := hp.old_ 7 (.func (.func 70) #[.agg #[.iface 59 (.pointer (some p))]] #[])
      have hk := hK.pure (.func (.func 70) #[.agg #[.iface 59 (.pointer (some p))]] #[]) hp.S
      clear hp hK
      go_simp
      exact hk
    · intro a wu γ nph K hp hK
      obtain ⟨e4a, e4b⟩ := hp.old_ 4 (.pointer (some ⟨w.heap.size + 1, 0, none⟩))
      have hk := hK.pure (.pointer (some ⟨w.heap.size + 1, 0, none⟩)) hp.S
      clear hp hK
      go_simp
      exact hk
    · intro a wu γ nph K hp hK
      obtain ⟨e35a, e35b⟩ := hp.dep_ 35 3 (.pointer (some ⟨w.heap.size + 1, 0, none⟩))
      have hS : Sd wz1 [w.heap.size + 1 + 1 + 1] CL wu := hp.S
      have c1 := hS.at_ 1 ⟨w.heap.size + 1, 0, none⟩ (.int .i32 (q0).v) (by rw [hCL]; rfl)
      have hk := hK.pure (.int .i32 (q0).v) hp.S
      clear hp hK hS
      go_simp
      exact hk
    · intro a wu γ nph K hp hK
      obtain ⟨e4a, e4b⟩ := hp.old_ 4 (.pointer (some ⟨w.heap.size + 1, 0, none⟩))
      have hk := hK.pure (.pointer (some ⟨w.heap.size + 1, 1, none⟩)) hp.S
      clear hp hK
      go_simp
      exact hk
    · intro a wu γ nph K hp hK
      obtain ⟨e37a, e37b⟩ := hp.dep_ 37 5 (.pointer (some ⟨w.heap.size + 1, 1, none⟩))
      have hS : Sd wz1 [w.heap.size + 1 + 1 + 1] CL wu := hp.S
      have c2 := hS.at_ 2 ⟨w.heap.size + 1, 1, none⟩ (.int .i32 (q1).v) (by rw [hCL]; rfl)
      have hk := hK.pure (.int .i32 (q1).v) hp.S
      clear hp hK hS
      go_simp
      exact hk
    · intro a wu γ nph K hp hK
      obtain ⟨e34a, e34b⟩ := hp.dep_ 34 2 (.func (.func 70) #[.agg #[.iface 59 (.pointer (some p))]] #[])
      obtain ⟨e36a, e36b⟩ := hp.dep_ 36 4 (.int .i32 (q0).v)
      obtain ⟨e38a, e38b⟩ := hp.dep_ 38 6 (.int .i32 (q1).v)
      have hS : Sd wz1 [w.heap.size + 1 + 1 + 1] CL wu := hp.S
      have hk := hK.call (.int .i32 (mulqW (q0) (q1)).v)
      clear hp hK
      go_simp
      refine (w_mulq p _ _ _).mono ?_
      rintro e w7 ⟨rfl, hcX⟩
      exact hk _ (hS.call hcX) (Reg.keep_call _ rfl hcX)
    · intro a wu γ nph K hp hK
      obtain ⟨e7a, e7b⟩ := hp.old_ 7 (.func (.func 70) #[.agg #[.iface 59 (.pointer (some p))]] #[])
      have hk := hK.pure (.func (.func 70) #[.agg #[.iface 59 (.pointer (some p))]] #[]) hp.S
      clear hp hK
      go_simp
      exact hk
    · intro a wu γ nph K hp hK
      obtain ⟨e4a, e4b⟩ := hp.old_ 4 (.pointer (some ⟨w.heap.size + 1, 0, none⟩))
      have hk := hK.pure (.pointer (some ⟨w.heap.size + 1, 2, none⟩)) hp.S
      clear hp hK
      go_simp
      exact hk
    · intro a wu γ nph K hp hK
      obtain ⟨e41a, e41b⟩ := hp.dep_ 41 9 (.pointer (some ⟨w.heap.size + 1, 2, none⟩))
      have hS : Sd wz1 [w.heap.size + 1 + 1 + 1] CL wu := hp.S
      have c3 := hS.at_ 3 ⟨w.heap.size + 1, 2, none⟩ (.int .i32 (q2).v) (by rw [hCL]; rfl)
      have hk := hK.pure (.int .i32 (q2).v) hp.S
      clear hp hK hS
      go_simp
      exact hk
    · intro a wu γ nph K hp hK
      obtain ⟨e4a, e4b⟩ := hp.old_ 4 (.pointer (some ⟨w.heap.size + 1, 0, none⟩))
      have hk := hK.pure (.pointer (some ⟨w.heap.size + 1, 3, none⟩)) hp.S
      clear hp hK
      go_simp
      exact hk
    · intro a wu γ nph K hp hK
      obtain ⟨e43a, e43b⟩ := hp.dep_ 43 11 (.pointer (some ⟨w.heap.size + 1, 3, none⟩))
      have hS : Sd wz1 [w.heap.size + 1 + 1 + 1] CL wu := hp.S
      have c4 := hS.at_ 4 ⟨w.heap.size + 1, 3, none⟩ (.int .i32 (q3).v) (by rw [hCL]; rfl)
      have hk := hK.pure (.int .i32 (q3).v) hp.S
      clear hp hK hS
      go_simp
      exact hk
    · intro a wu γ nph K hp hK
      obtain ⟨e40a, e40b⟩ := hp.dep_ 40 8 (.func (.func 70) #[.agg #[.iface 59 (.pointer (some p))]] #[])
      obtain ⟨e42a, e42b⟩ := hp.dep_ 42 10 (.int .i32 (q2).v)
      obtain ⟨e44a, e44b⟩ := hp.dep_ 44 12 (.int .i32 (q3).v)
      have hS : Sd wz1 [w.heap.size + 1 + 1 + 1] CL wu := hp.S
      have hk := hK.call (.int .i32 (mulqW (q2) (q3)).v)
      clear hp hK
      go_simp
      refine (w_mulq p _ _ _).mono ?_
      rintro e w7 ⟨rfl, hcX⟩
      exact hk _ (hS.call hcX) (Reg.keep_call _ rfl hcX)
    · intro a wu γ nph K hp hK
      obtain ⟨e45a, e45b⟩ := hp.dep_ 45 13 (.int .i32 (mulqW (q2) (q3)).v)
      have hk := hK.new 21 [.int .i32 (mulqW (q2) (q3)).v] (fun g => .slice (some ⟨g, 0, none⟩) 1 1)
      clear hp hK
      go_simp
      exact hk
    · intro a wu γ nph K hp hK
      obtain ⟨e33a, e33b⟩ := hp.dep_ 33 1 (.agg #[.iface 59 (.pointer (some p))])
      obtain ⟨e39a, e39b⟩ := hp.dep_ 39 7 (.int .i32 (mulqW (q0) (q1)).v)
      obtain ⟨e46a, e46b⟩ := hp.dep_ 46 14 (.slice (some ⟨γ 14, 0, none⟩) 1 1)
      have hS : Sd wz1 [w.heap.size + 1 + 1 + 1] CL wu := hp.S
      have nb14 : Blk wu (γ 14) 21 [.int .i32 (mulqW (q2) (q3)).v] := (hp.blk_ 14 (T := 21) (c := [.int .i32 (mulqW (q2) (q3)).v])).1
      have hk := hK.call (.int .i32 (moreW (mulqW (q0) (q1)) [mulqW (q2) (q3)]).v)
      clear hp hK
      go_simp
      refine (wmore_calls p _ [mulqW (q2) (q3)] _ _ (Sl.blk' (show Blk wu (γ 14) 21 (wds [mulqW (q2) (q3)]) from nb14) rfl (Nat.le_refl _)) (by simp)).mono ?_
      rintro e w7 ⟨rfl, hcX⟩
      exact hk _ (hS.call hcX) (Reg.keep_call _ rfl hcX)
    · intro a wu γ nph K hp hK
      obtain ⟨e3a, e3b⟩ := hp.old_ 3 (.pointer (some ⟨w.heap.size, 0, none⟩))
      have hS : Sd wz1 [w.heap.size + 1 + 1 + 1] CL wu := hp.S
      have c0 := hS.at_ 0 ⟨w.heap.size, 0, none⟩ (.iface 59 (.pointer (some p))) (by rw [hCL]; rfl)
      have hk := hK.pure (.agg #[.iface 59 (.pointer (some p))]) hp.S
      clear hp hK hS
      go_simp
      exact hk
    · intro a wu γ nph K hp hK
      obtain ⟨e5a, e5b⟩ := hp.old_ 5 (.pointer (some ⟨w.heap.size + 1 + 1, 0, none⟩))
      have hk := hK.pure (.pointer (some ⟨w.heap.size + 1 + 1, 1, none⟩)) hp.S
      clear hp hK
      go_simp
      exact hk
    · intro a wu γ nph K hp hK
      obtain ⟨e49a, e49b⟩ := hp.dep_ 49 17 (.pointer (some ⟨w.heap.size + 1 + 1, 1, none⟩))
      have hS : Sd wz1 [w.heap.size + 1 + 1 + 1] CL wu := hp.S
      have c6 := hS.at_ 6 ⟨w.heap.size + 1 + 1, 1, none⟩ (.int .i32 (a1).v) (by rw [hCL]; rfl)
      have hk := hK.pure (.int .i32 (a1).v) hp.S
      clear hp hK hS
      go_simp
      exact hk
    · intro a wu γ nph K hp hK
      obtain ⟨e48a, e48b⟩ := hp.dep_ 48 16 (.agg #[.iface 59 (.pointer (some p))])
      obtain ⟨e50a, e50b⟩ := hp.dep_ 50 18 (.int .i32 (a1).v)
      have hS : Sd wz1 [w.heap.size + 1 + 1 + 1] CL wu := hp.S
      have hk := hK.call (.int .i32 (downW (a1) (1)).v)
      clear hp hK
      go_simp
      refine (w_down p _ _ _ (by decide)).mono ?_
      rintro e w7 ⟨rfl, hcX⟩
      exact hk _ (hS.call hcX) (Reg.keep_call _ rfl hcX)
    · intro a wu γ nph K hp hK
      obtain ⟨e51a, e51b⟩ := hp.dep_ 51 19 (.int .i32 (downW (a1) (1)).v)
      have hk := hK.new 21 [.int .i32 (downW (a1) (1)).v] (fun g => .slice (some ⟨g, 0, none⟩) 1 1)
      clear hp hK
      go_simp
      exact hk
    · intro a wu γ nph K hp hK
      obtain ⟨e32a, e32b⟩ := hp.dep_ 32 0 (.agg #[.iface 59 (.pointer (some p))])
      obtain ⟨e47a, e47b⟩ := hp.dep_ 47 15 (.int .i32 (moreW (mulqW (q0) (q1)) [mulqW (q2) (q3)]).v)
      obtain ⟨e52a, e52b⟩ := hp.dep_ 52 20 (.slice (some ⟨γ 20, 0, none⟩) 1 1)
      have hS : Sd wz1 [w.heap.size + 1 + 1 + 1] CL wu := hp.S
      have nb20 : Blk wu (γ 20) 21 [.int .i32 (downW (a1) (1)).v] := (hp.blk_ 20 (T := 21) (c := [.int .i32 (downW (a1) (1)).v])).1
      have hk := hK.call (.int .i32 (lessW (moreW (mulqW (q0) (q1)) [mulqW (q2) (q3)]) [downW (a1) (1)]).v)
      clear hp hK
      go_simp
      refine (wless_calls p _ [downW (a1) (1)] _ _ (Sl.blk' (show Blk wu (γ 20) 21 (wds [downW (a1) (1)]) from nb20) rfl (Nat.le_refl _)) (by simp)).mono ?_
      rintro e w7 ⟨rfl, hcX⟩
      exact hk _ (hS.call hcX) (Reg.keep_call _ rfl hcX)
    · intro a wu γ nph K hp hK
      obtain ⟨e53a, e53b⟩ := hp.dep_ 53 21 (.int .i32 (lessW (moreW (mulqW (q0) (q1)) [mulqW (q2) (q3)]) [downW (a1) (1)]).v)
      have hk := hK.pure (.int .i32 (lessW (moreW (mulqW (q0) (q1)) [mulqW (q2) (q3)]) [downW (a1) (1)]).v) hp.S
      clear hp hK
      go_simp
      exact hk
  · intro a wu γ nph K hp hK
    obtain ⟨e3a, e3b⟩ := hp.old_ 3 (.pointer (some ⟨w.heap.size, 0, none⟩))
    have hS : Sd w6 [w.heap.size + 1 + 1 + 1] CL wu := hp.S
    have c0 := hS.at_ 0 ⟨w.heap.size, 0, none⟩ (.iface 59 (.pointer (some p))) (by rw [hCL]; rfl)
    have hk := hK.pure (.agg #[.iface 59 (.pointer (some p))]) hp.S
    clear hp hK hS
    go_simp
    exact hk
  · intro a wu γ nph K hp hK
    obtain ⟨e7a, e7b⟩ := hp.old_ 7 (.func (.func 70) #[.agg #[.iface 59 (.pointer (some p))]] #[])
    have hk := hK.pure (.func (.func 70) #[.agg #[.iface 59 (.pointer (some p))]] #[]) hp.S
    clear hp hK
    go_simp
    exact hk
  · intro a wu γ nph K hp hK
    obtain ⟨e4a, e4b⟩ := hp.old_ 4 (.pointer (some ⟨w.heap.size + 1, 0, none⟩))
    have hk := hK.pure (.pointer (some ⟨w.heap.size + 1, 1, none⟩)) hp.S
    clear hp hK
    go_simp
    exact hk
  · intro a wu γ nph K hp hK
    obtain ⟨e15a, e15b⟩ := hp.dep_ 15 2 (.pointer (some ⟨w.heap.size + 1, 1, none⟩))
    have hS : Sd w6 [w.heap.size + 1 + 1 + 1] CL wu := hp.S
    have c2 := hS.at_ 2 ⟨w.heap.size + 1, 1, none⟩ (.int .i32 (q1).v) (by rw [hCL]; rfl)
    have hk := hK.pure (.int .i32 (q1).v) hp.S
    clear hp hK hS
    go_simp
    exact hk
  · intro a wu γ nph K hp hK
    obtain ⟨e4a, e4b⟩ := hp.old_ 4 (.pointer (some ⟨w.heap.size + 1, 0, none⟩))
    have hk := hK.pure (.pointer (some ⟨w.heap.size + 1, 3, none⟩)) hp.S
    clear hp hK
    go_simp
    exact hk
  · intro a wu γ nph K hp hK
    obtain ⟨e17a, e17b⟩ := hp.dep_ 17 4 (.pointer (some ⟨w.heap.size + 1, 3, none⟩))
    have hS : Sd w6 [w.heap.size + 1 + 1 + 1] CL wu := hp.S
    have c4 := hS.at_ 4 ⟨w.heap.size + 1, 3, none⟩ (.int .i32 (q3).v) (by rw [hCL]; rfl)
    have hk := hK.pure (.int .i32 (q3).v) hp.S
    clear hp hK hS
    go_simp
    exact hk
  · intro a wu γ nph K hp hK
    obtain ⟨e14a, e14b⟩ := hp.dep_ 14 1 (.func (.func 70) #[.agg #[.iface 59 (.pointer (some p))]] #[])
    obtain ⟨e16a, e16b⟩ := hp.dep_ 16 3 (.int .i32 (q1).v)
    obtain ⟨e18a, e18b⟩ := hp.dep_ 18 5 (.int .i32 (q3).v)
    have hS : Sd w6 [w.heap.size + 1 + 1 + 1] CL wu := hp.S
    have hk := hK.call (.int .i32 (mulqW (q1) (q3)).v)
    clear hp hK
    go_simp
    refine (w_mulq p _ _ _).mono ?_
    rintro e w7 ⟨rfl, hcX⟩
    exact hk _ (hS.call hcX) (Reg.keep_call _ rfl hcX)
  · intro a wu γ nph K hp hK
    obtain ⟨e7a, e7b⟩ := hp.old_ 7 (.func (.func 70) #[.agg #[.iface 59 (.pointer (some p))]] #[])
    have hk := hK.pure (.func (.func 70) #[.agg #[.iface 59 (.pointer (some p))]] #[]) hp.S
    clear hp hK
    go_simp
    exact hk
  · intro a wu γ nph K hp hK
    obtain ⟨e4a, e4b⟩ := hp.old_ 4 (.pointer (some ⟨w.heap.size + 1, 0, none⟩))
    have hk := hK.pure (.pointer (some ⟨w.heap.size + 1, 0, none⟩)) hp.S
    clear hp hK
    go_simp
    exact hk
  · intro a wu γ nph K hp hK
    obtain ⟨e21a, e21b⟩ := hp.dep_ 21 8 (.pointer (some ⟨w.heap.size + 1, 0, none⟩))
    have hS : Sd w6 [w.heap.size + 1 + 1 + 1] CL wu := hp.S
    have c1 := hS.at_ 1 ⟨w.heap.size + 1, 0, none⟩ (.int .i32 (q0).v) (by rw [hCL]; rfl)
    have hk := hK.pure (.int .i32 (q0).v) hp.S
    clear hp hK hS
    go_simp
    exact hk
  · intro a wu γ nph K hp hK
    obtain ⟨e4a, e4b⟩ := hp.old_ 4 (.pointer (some ⟨w.heap.size + 1, 0, none⟩))
    have hk := hK.pure (.pointer (some ⟨w.heap.size + 1, 2, none⟩)) hp.S
    clear hp hK
    go_simp
    exact hk
  · intro a wu γ nph K hp hK
    obtain ⟨e23a, e23b⟩ := hp.dep_ 23 10 (.pointer (some ⟨w.heap.size + 1, 2, none⟩))
    have hS : Sd w6 [w.heap.size + 1 + 1 + 1] CL wu := hp.S
    have c3 := hS.at_ 3 ⟨w.heap.size + 1, 2, none⟩ (.int .i32 (q2).v) (by rw [hCL]; rfl)
    have hk := hK.pure (.int .i32 (q2).v) hp.S
    clear hp hK hS
    go_simp
    exact hk
  · intro a wu γ nph K hp hK
    obtain ⟨e20a, e20b⟩ := hp.dep_ 20 7 (.func (.func 70) #[.agg #[.iface 59 (.pointer (some p))]] #[])
    obtain ⟨e22a, e22b⟩ := hp.dep_ 22 9 (.int .i32 (q0).v)
    obtain ⟨e24a, e24b⟩ := hp.dep_ 24 11 (.int .i32 (q2).v)
    have hS : Sd w6 [w.heap.size + 1 + 1 + 1] CL wu := hp.S
    have hk := hK.call (.int .i32 (mulqW (q0) (q2)).v)
    clear hp hK
    go_simp
    refine (w_mulq p _ _ _).mono ?_
    rintro e w7 ⟨rfl, hcX⟩
    exact hk _ (hS.call hcX) (Reg.keep_call _ rfl hcX)
  · intro a wu γ nph K hp hK
    obtain ⟨e3a, e3b⟩ := hp.old_ 3 (.pointer (some ⟨w.heap.size, 0, none⟩))
    have hS : Sd w6 [w.heap.size + 1 + 1 + 1] CL wu := hp.S
    have c0 := hS.at_ 0 ⟨w.heap.size, 0, none⟩ (.iface 59 (.pointer (some p))) (by rw [hCL]; rfl)
    have hk := hK.pure (.agg #[.iface 59 (.pointer (some p))]) hp.S
    clear hp hK hS
    go_simp
    exact hk
  · intro a wu γ nph K hp hK
    obtain ⟨e5a, e5b⟩ := hp.old_ 5 (.pointer (some ⟨w.heap.size + 1 + 1, 0, none⟩))
    have hk := hK.pure (.pointer (some ⟨w.heap.size + 1 + 1, 0, none⟩)) hp.S
    clear hp hK
    go_simp
    exact hk
  · intro a wu γ nph K hp hK
    obtain ⟨e27a, e27b⟩ := hp.dep_ 27 14 (.pointer (some ⟨w.heap.size + 1 + 1, 0, none⟩))
    have hS : Sd w6 [w.heap.size + 1 + 1 + 1] CL wu := hp.S
    have c5 := hS.at_ 5 ⟨w.heap.size + 1 + 1, 0, none⟩ (.int .i32 (a0).v) (by rw [hCL]; rfl)
    have hk := hK.pure (.int .i32 (a0).v) hp.S
    clear hp hK hS
    go_simp
    exact hk
  · intro a wu γ nph K hp hK
    obtain ⟨e26a, e26b⟩ := hp.dep_ 26 13 (.agg #[.iface 59 (.pointer (some p))])
    obtain ⟨e28a, e28b⟩ := hp.dep_ 28 15 (.int .i32 (a0).v)
    have hS : Sd w6 [w.heap.size + 1 + 1 + 1] CL wu := hp.S
    have hk := hK.call (.int .i32 (downW (a0) (1)).v)
    clear hp hK
    go_simp
    refine (w_down p _ _ _ (by decide)).mono ?_
    rintro e w7 ⟨rfl, hcX⟩
    exact hk _ (hS.call hcX) (Reg.keep_call _ rfl hcX)
  · intro a wu γ nph K hp hK
    obtain ⟨e25a, e25b⟩ := hp.dep_ 25 12 (.int .i32 (mulqW (q0) (q2)).v)
    obtain ⟨e29a, e29b⟩ := hp.dep_ 29 16 (.int .i32 (downW (a0) (1)).v)
    have hk := hK.new 21 [.int .i32 (mulqW (q0) (q2)).v, .int .i32 (downW (a0) (1)).v] (fun g => .slice (some ⟨g, 0, none⟩) 2 2)
    clear hp hK
    go_simp
    exact hk
  · intro a wu γ nph K hp hK
    obtain ⟨e13a, e13b⟩ := hp.dep_ 13 0 (.agg #[.iface 59 (.pointer (some p))])
    obtain ⟨e19a, e19b⟩ := hp.dep_ 19 6 (.int .i32 (mulqW (q1) (q3)).v)
    obtain ⟨e30a, e30b⟩ := hp.dep_ 30 17 (.slice (some ⟨γ 17, 0, none⟩) 2 2)
    have hS : Sd w6 [w.heap.size + 1 + 1 + 1] CL wu := hp.S
    have nb17 : Blk wu (γ 17) 21 [.int .i32 (mulqW (q0) (q2)).v, .int .i32 (downW (a0) (1)).v] := (hp.blk_ 17 (T := 21) (c := [.int .i32 (mulqW (q0) (q2)).v, .int .i32 (downW (a0) (1)).v])).1
    have hk := hK.call (.int .i32 (lessW (mulqW (q1) (q3)) [mulqW (q0) (q2), downW (a0) (1)]).v)
    clear hp hK
    go_simp
    refine (wless_calls p _ [mulqW (q0) (q2), downW (a0) (1)] _ _ (Sl.blk' (show Blk wu (γ 17) 21 (wds [mulqW (q0) (q2), downW (a0) (1)]) from nb17) rfl (Nat.le_refl _)) (by simp)).mono ?_
    rintro e w7 ⟨rfl, hcX⟩
    exact hk _ (hS.call hcX) (Reg.keep_call _ rfl hcX)
  · intro a wu γ nph K hp hK
    obtain ⟨e31a, e31b⟩ := hp.dep_ 31 18 (.int .i32 (lessW (mulqW (q1) (q3)) [mulqW (q0) (q2), downW (a0) (1)]).v)
    have hk := hK.pure (.int .i32 (lessW (mulqW (q1) (q3)) [mulqW (q0) (q2), downW (a0) (1)]).v) hp.S
    clear hp hK
    go_simp
    exact hk

end Go.Proofs.YtkfkoobdmnndcaaGreat
