/- Angles of package works at numbers. -/
import Derived.Test.YtbmfcedndbgpoaaGreatWorks10b
namespace Go.Proofs.YtbmfcedndbgpoaaGreat
open Go.RowKit Go.Deep
set_option linter.unusedVariables false
def anglesY (q0 q1 q2 q3 : Wd) : Wd := moreW (mulqW q0 q1) [mulqW q2 q3]
def anglesX (q0 q1 q2 q3 : Wd) : Wd := lessW (kW 536870912) [mulqW q1 q1, mulqW q2 q2]
def anglesS (q0 q1 q2 q3 : Wd) : Wd := lessW (mulqW q0 q2) [mulqW q3 q1]
def anglesU (q0 q1 q2 q3 : Wd) : Wd := moreW (mulqW q0 q3) [mulqW q1 q2]
def anglesV (q0 q1 q2 q3 : Wd) : Wd := lessW (kW 536870912) [mulqW q2 q2, mulqW q3 q3]
def anglesR (q0 q1 q2 q3 : Wd) : Wd := sqrtW (normW (anglesX q0 q1 q2 q3) [anglesY q0 q1 q2 q3])
def anglesW (q0 q1 q2 q3 : Wd) : T3 := ⟨angleW (anglesY q0 q1 q2 q3) (anglesX q0 q1 q2 q3), angleW (anglesS q0 q1 q2 q3) (anglesR q0 q1 q2 q3), angleW (anglesU q0 q1 q2 q3) (anglesV q0 q1 q2 q3)⟩
/-- All ones, if it stands upright. -/
def lockedW (q0 q1 q2 q3 : Wd) : Wd := subW (sltW (absW (anglesS q0 q1 q2 q3)) (kW 536000000)) (kW 1)
set_option maxRecDepth 100000 in
set_option maxHeartbeats 16000000 in
theorem wangles_calls (b : Nat) (q0 q1 q2 q3 : Wd) (n : Nat) (w : World) (hn : n ≤ 880) (hpl : PlR w b (most n)) :
    Calls Tryz.prog 50 #[.agg #[.iface 74 (.pointer (some ⟨b, 0, none⟩))], .agg #[.int .i32 q0.v, .int .i32 q1.v, .int .i32 q2.v, .int .i32 q3.v]] w fun e w' => e = .returned (.tuple #[.agg #[.int .i32 (anglesW q0 q1 q2 q3).a.v, .int .i32 (anglesW q0 q1 q2 q3).b.v, .int .i32 (anglesW q0 q1 q2 q3).c.v], .int .i32 (lockedW q0 q1 q2 q3).v]) ∧ PlR w' b (most (n + 10)) ∧ Turn w b w' := by
  have k0 := Blk.new w 52 [.iface 74 (.pointer (some ⟨b, 0, none⟩))]
  have m0 := ((k0.alloc (.cells #[.int .i32 q0.v, .int .i32 q1.v, .int .i32 q2.v, .int .i32 q3.v] 27)).alloc (.cells #[.int .i32 0, .int .i32 0, .int .i32 0] 22))
  have g0_0 := m0.cell' (i := 0) rfl
  have k1 := Blk.new (w.alloc (.cells #[.iface 74 (.pointer (some ⟨b, 0, none⟩))] 52)) 27 [.int .i32 q0.v, .int .i32 q1.v, .int .i32 q2.v, .int .i32 q3.v]
  have m1 := (k1.alloc (.cells #[.int .i32 0, .int .i32 0, .int .i32 0] 22))
  simp only [size_alloc] at m1
  have g1_0 := m1.cell' (i := 0) rfl
  have g1_1 := m1.cell' (i := 1) rfl
  have g1_2 := m1.cell' (i := 2) rfl
  have g1_3 := m1.cell' (i := 3) rfl
  have k2 := Blk.new ((w.alloc (.cells #[.iface 74 (.pointer (some ⟨b, 0, none⟩))] 52)).alloc (.cells #[.int .i32 q0.v, .int .i32 q1.v, .int .i32 q2.v, .int .i32 q3.v] 27)) 22 [.int .i32 0, .int .i32 0, .int .i32 0]
  have m2 := k2
  simp only [size_alloc] at m2
  have HC := hide ((((Chg.refl w []).alloc (.cells #[.iface 74 (.pointer (some ⟨b, 0, none⟩))] 52)).alloc (.cells #[.int .i32 q0.v, .int .i32 q1.v, .int .i32 q2.v, .int .i32 q3.v] 27)).alloc (.cells #[.int .i32 0, .int .i32 0, .int .i32 0] 22))
  clear k0 k1 k2
  have h1 := nil_const ⟨b, 0, none⟩
  have h2 := meth_const ⟨b, 0, none⟩
  have h3 := nil_get ⟨b, 0, none⟩
  have h4 := meth_get ⟨b, 0, none⟩
  have h5 := nil_set ⟨b, 0, none⟩
  have h6 := meth_set ⟨b, 0, none⟩
  have h7 := nil_cell ⟨b, 0, none⟩
  have h8 := meth_cell ⟨b, 0, none⟩
  have h9 := nil_loop ⟨b, 0, none⟩
  have h10 := meth_loop ⟨b, 0, none⟩
  have HT0 : Hid (Turn w b (((w.alloc (.cells #[.iface 74 (.pointer (some ⟨b, 0, none⟩))] 52)).alloc (.cells #[.int .i32 q0.v, .int .i32 q1.v, .int .i32 q2.v, .int .i32 q3.v] 27)).alloc (.cells #[.int .i32 0, .int .i32 0, .int .i32 0] 22))) := hide (Turn.call hpl HC.out)
  have hfar := far_of hpl HC.out
  have fb0 := hfar (w.heap.size) (by omega)
  have fb1 := hfar (w.heap.size + 1) (by omega)
  have fb2 := hfar (w.heap.size + 1 + 1) (by omega)
  have lb2 := m2.lt
  have hp6 := hpl.chg HC.out (by simp)
  clear hfar HC m0 m1
  go_enter Tryz.func50, Tryz.ntmps50
  go_wp2_with fail
  generalize (((w.alloc (.cells #[.iface 74 (.pointer (some ⟨b, 0, none⟩))] 52)).alloc (.cells #[.int .i32 q0.v, .int .i32 q1.v, .int .i32 q2.v, .int .i32 q3.v] 27)).alloc (.cells #[.int .i32 0, .int .i32 0, .int .i32 0] 22)) = w6 at *
  obtain ⟨CL, hCL⟩ : ∃ l : List (Addr × Value), l = [(⟨w.heap.size, 0, none⟩, .iface 74 (.pointer (some ⟨b, 0, none⟩))), (⟨w.heap.size + 1, 0, none⟩, .int .i32 (q0).v), (⟨w.heap.size + 1, 1, none⟩, .int .i32 (q1).v), (⟨w.heap.size + 1, 2, none⟩, .int .i32 (q2).v), (⟨w.heap.size + 1, 3, none⟩, .int .i32 (q3).v)] := ⟨_, rfl⟩
  have HS0 : Sp w6 b (fun _ => (most n)) [w.heap.size + 1 + 1] CL 0 w6.drew := Sp.start hp6 (by rw [hCL]; simp only [List.forall_mem_cons]; exact ⟨g0_0, g1_0, g1_1, g1_2, g1_3, by simp⟩)
  have hap : Apart w6 b [w.heap.size + 1 + 1] [w.heap.size, w.heap.size + 1] CL := ⟨by rw [hCL]; simp only [List.forall_mem_cons]; exact ⟨by simp, by simp, by simp, by simp, by simp, by simp⟩, by simp only [List.forall_mem_cons]; exact ⟨World.block_lt_of_cell? _ _ g0_0, World.block_lt_of_cell? _ _ g1_0, by simp⟩, by simp only [List.forall_mem_cons]; exact ⟨fb0, fb1, by simp⟩, by simp only [List.forall_mem_cons]; exact ⟨⟨lb2, fb2⟩, by simp⟩⟩
  refine Reg.wp_region (Reg.of 16 _ _ [.agg #[.iface 74 (.pointer (some ⟨b, 0, none⟩))], .func (.func 92) #[.agg #[.iface 74 (.pointer (some ⟨b, 0, none⟩))]] #[], .pointer (some ⟨w.heap.size + 1, 0, none⟩), .int .i32 (q0).v, .pointer (some ⟨w.heap.size + 1, 1, none⟩), .int .i32 (q1).v, .int .i32 (mulqW (q0) (q1)).v, .func (.func 92) #[.agg #[.iface 74 (.pointer (some ⟨b, 0, none⟩))]] #[], .pointer (some ⟨w.heap.size + 1, 2, none⟩), .int .i32 (q2).v, .pointer (some ⟨w.heap.size + 1, 3, none⟩), .int .i32 (q3).v, .int .i32 (mulqW (q2) (q3)).v, undef, .int .i32 (moreW (mulqW (q0) (q1)) [mulqW (q2) (q3)]).v, .int .i32 (moreW (mulqW (q0) (q1)) [mulqW (q2) (q3)]).v] [fun _ => undef, fun _ => undef, fun _ => undef, fun _ => undef, fun _ => undef, fun _ => undef, fun _ => undef, fun _ => undef, fun _ => undef, fun _ => undef, fun _ => undef, fun _ => undef, fun _ => undef, fun g => .slice (some ⟨g, 0, none⟩) 1 1, fun _ => undef, fun _ => undef] [.val, .val, .val, .val, .val, .val, .val, .val, .val, .val, .val, .val, .val, .new 21 [.int .i32 (mulqW (q2) (q3)).v], .val, .val] [(22, [.int .i32 0, .int .i32 0, .int .i32 0])] [w.heap.size + 1 + 1] [] (Sp w6 b (fun _ => (most n)) [w.heap.size + 1 + 1] CL) (Fp w6 b [w.heap.size + 1 + 1] [w.heap.size, w.heap.size + 1])) (Reg.good_of _ 129 (by kernel_rfl) (by kernel_rfl)) (stands_p _ hap rfl rfl rfl) (by kernel_rfl) HS0 (hold_of (by kernel_rfl) ?holdwz1) (ne_of (by kernel_rfl) ?hnewz1) (Reg.steps_of _ rfl ⟨?_, ?_, ?_, ?_, ?_, ?_, ?_, ?_, ?_, ?_, ?_, ?_, ?_, ?_, ?_, ?_, trivial⟩) ?hendwz1
  case holdwz1 =>
    intro k T c hk
    cases k with
    | zero => simp only [List.getElem?_cons_zero, Option.some.injEq, Prod.mk.injEq] at hk; obtain ⟨rfl, rfl⟩ := hk; exact ⟨m2, ⟨by simp; try omega, fb2, .inl (by simp)⟩⟩
    | succ k =>
      simp at hk
  case hnewz1 => intro i j hi hj hne; simp at hi hj; omega
  case hendwz1 =>
    intro wz1 γ hSz hBz hnez hOz
    replace hSz : Sp w6 b (fun _ => (most n)) [w.heap.size + 1 + 1] CL 0 wz1 := hSz
    have nb13 : Blk wz1 (γ 13) 21 [.int .i32 (mulqW (q2) (q3)).v] := (hBz 13 21 [.int .i32 (mulqW (q2) (q3)).v] (by kernel_rfl) [.int .i32 (mulqW (q2) (q3)).v] (by kernel_rfl)).1
    have nf13 : Fp w6 b [w.heap.size + 1 + 1] [w.heap.size, w.heap.size + 1] wz1 (γ 13) := (hBz 13 21 [.int .i32 (mulqW (q2) (q3)).v] (by kernel_rfl) [.int .i32 (mulqW (q2) (q3)).v] (by kernel_rfl)).2.1
    have ob0 : Blk wz1 (w.heap.size + 1 + 1) 22 [.int .i32 0, .int .i32 0, .int .i32 0] := by have h := (hBz 16 22 [.int .i32 0, .int .i32 0, .int .i32 0] (by kernel_rfl) [.int .i32 0, .int .i32 0, .int .i32 0] (by kernel_rfl)).1; rw [hOz 16 (Nat.le_trans (Nat.le_of_eq (by kernel_rfl : _ = 16)) (by decide : 16 ≤ 16))] at h; exact h
    refine end_of [(7, .int .i32 (moreW (mulqW (q0) (q1)) [mulqW (q2) (q3)]).v), (15, .agg #[.iface 74 (.pointer (some ⟨b, 0, none⟩))]), (16, .func (.func 92) #[.agg #[.iface 74 (.pointer (some ⟨b, 0, none⟩))]] #[]), (17, .pointer (some ⟨w.heap.size + 1, 0, none⟩)), (18, .int .i32 (q0).v), (19, .pointer (some ⟨w.heap.size + 1, 1, none⟩)), (20, .int .i32 (q1).v), (21, .int .i32 (mulqW (q0) (q1)).v), (22, .func (.func 92) #[.agg #[.iface 74 (.pointer (some ⟨b, 0, none⟩))]] #[]), (23, .pointer (some ⟨w.heap.size + 1, 2, none⟩)), (24, .int .i32 (q2).v), (25, .pointer (some ⟨w.heap.size + 1, 3, none⟩)), (26, .int .i32 (q3).v), (27, .int .i32 (mulqW (q2) (q3)).v), (28, .slice (some ⟨γ 13, 0, none⟩) 1 1), (29, .int .i32 (moreW (mulqW (q0) (q1)) [mulqW (q2) (q3)]).v)] (by kernel_rfl) ?_
    clear hBz hnez hOz HS0
    simp only [Reg.of, List.foldl_cons, List.foldl_nil, List.setIfInBounds_toArray, List.set_cons_zero, List.set_cons_succ]
    generalize γ 13 = b13 at *
    have HC1 := hide (HT0.out.region hSz (by simp; try omega))
    have pl1 := hSz.pl
    have fr1_0 := hSz.apart hap (w.heap.size) (by simp)
    have fr1_1 := hSz.apart hap (w.heap.size + 1) (by simp)
    have fr1_2 := hSz.turn_far lb2 fb2
    have lt1_0 := ob0.lt
    have y1_0 : wz1.cell? ⟨w.heap.size, 0, none⟩ = some (.iface 74 (.pointer (some ⟨b, 0, none⟩))) := hSz.at_ 0 _ _ (by rw [hCL]; rfl)
    have y1_1 : wz1.cell? ⟨w.heap.size + 1, 0, none⟩ = some (.int .i32 (q0).v) := hSz.at_ 1 _ _ (by rw [hCL]; rfl)
    have y1_2 : wz1.cell? ⟨w.heap.size + 1, 1, none⟩ = some (.int .i32 (q1).v) := hSz.at_ 2 _ _ (by rw [hCL]; rfl)
    have y1_3 : wz1.cell? ⟨w.heap.size + 1, 2, none⟩ = some (.int .i32 (q2).v) := hSz.at_ 3 _ _ (by rw [hCL]; rfl)
    have y1_4 : wz1.cell? ⟨w.heap.size + 1, 3, none⟩ = some (.int .i32 (q3).v) := hSz.at_ 4 _ _ (by rw [hCL]; rfl)
    clear hSz hCL hap CL g0_0 g1_0 g1_1 g1_2 g1_3 HT0 m2 fb0 fb1 fb2 lb2 hp6
    have mo1_0 := ob0
    clear ob0
    clear nb13 nf13
    go_wp2_with fail
    obtain ⟨CL, hCL⟩ : ∃ l : List (Addr × Value), l = [(⟨w.heap.size, 0, none⟩, .iface 74 (.pointer (some ⟨b, 0, none⟩))), (⟨w.heap.size + 1, 0, none⟩, .int .i32 (q0).v), (⟨w.heap.size + 1, 1, none⟩, .int .i32 (q1).v), (⟨w.heap.size + 1, 2, none⟩, .int .i32 (q2).v), (⟨w.heap.size + 1, 3, none⟩, .int .i32 (q3).v)] := ⟨_, rfl⟩
    have HS0 : Sp wz1 b (fun _ => (most n)) [w.heap.size + 1 + 1] CL 0 wz1.drew := Sp.start pl1 (by rw [hCL]; simp only [List.forall_mem_cons]; exact ⟨y1_0, y1_1, y1_2, y1_3, y1_4, by simp⟩)
    have hap : Apart wz1 b [w.heap.size + 1 + 1] [w.heap.size, w.heap.size + 1] CL := ⟨by rw [hCL]; simp only [List.forall_mem_cons]; exact ⟨by simp, by simp, by simp, by simp, by simp, by simp⟩, by simp only [List.forall_mem_cons]; exact ⟨World.block_lt_of_cell? _ _ y1_0, World.block_lt_of_cell? _ _ y1_1, by simp⟩, by simp only [List.forall_mem_cons]; exact ⟨fr1_0, fr1_1, by simp⟩, by simp only [List.forall_mem_cons]; exact ⟨⟨lt1_0, fr1_2⟩, by simp⟩⟩
    refine Reg.wp_region (Reg.of 19 _ _ [.agg #[.iface 74 (.pointer (some ⟨b, 0, none⟩))], .pointer (some ⟨w.heap.size, 0, none⟩), .iface 74 (.pointer (some ⟨b, 0, none⟩)), .int .i32 (kW (536870912)).v, .func (.func 92) #[.agg #[.iface 74 (.pointer (some ⟨b, 0, none⟩))]] #[], .pointer (some ⟨w.heap.size + 1, 1, none⟩), .int .i32 (q1).v, .pointer (some ⟨w.heap.size + 1, 1, none⟩), .int .i32 (q1).v, .int .i32 (mulqW (q1) (q1)).v, .func (.func 92) #[.agg #[.iface 74 (.pointer (some ⟨b, 0, none⟩))]] #[], .pointer (some ⟨w.heap.size + 1, 2, none⟩), .int .i32 (q2).v, .pointer (some ⟨w.heap.size + 1, 2, none⟩), .int .i32 (q2).v, .int .i32 (mulqW (q2) (q2)).v, undef, .int .i32 (lessW (kW (536870912)) [mulqW (q1) (q1), mulqW (q2) (q2)]).v, .int .i32 (lessW (kW (536870912)) [mulqW (q1) (q1), mulqW (q2) (q2)]).v] [fun _ => undef, fun _ => undef, fun _ => undef, fun _ => undef, fun _ => undef, fun _ => undef, fun _ => undef, fun _ => undef, fun _ => undef, fun _ => undef, fun _ => undef, fun _ => undef, fun _ => undef, fun _ => undef, fun _ => undef, fun _ => undef, fun g => .slice (some ⟨g, 0, none⟩) 2 2, fun _ => undef, fun _ => undef] [.val, .val, .val, .val, .val, .val, .val, .val, .val, .val, .val, .val, .val, .val, .val, .val, .new 21 [.int .i32 (mulqW (q1) (q1)).v, .int .i32 (mulqW (q2) (q2)).v], .val, .val] [(22, [.int .i32 0, .int .i32 0, .int .i32 0])] [w.heap.size + 1 + 1] [] (Sp wz1 b (fun _ => (most n)) [w.heap.size + 1 + 1] CL) (Fp wz1 b [w.heap.size + 1 + 1] [w.heap.size, w.heap.size + 1])) (Reg.good_of _ 129 (by kernel_rfl) (by kernel_rfl)) (stands_p _ hap rfl rfl rfl) (by kernel_rfl) HS0 (hold_of (by kernel_rfl) ?holdwz2) (ne_of (by kernel_rfl) ?hnewz2) (Reg.steps_of _ rfl ⟨?_, ?_, ?_, ?_, ?_, ?_, ?_, ?_, ?_, ?_, ?_, ?_, ?_, ?_, ?_, ?_, ?_, ?_, ?_, trivial⟩) ?hendwz2
    case holdwz2 =>
      intro k T c hk
      cases k with
      | zero => simp only [List.getElem?_cons_zero, Option.some.injEq, Prod.mk.injEq] at hk; obtain ⟨rfl, rfl⟩ := hk; exact ⟨mo1_0, ⟨by simp; try omega, fr1_2, .inl (by simp)⟩⟩
      | succ k =>
        simp at hk
    case hnewz2 => intro i j hi hj hne; simp at hi hj; omega
    case hendwz2 =>
      intro wz2 γ hSz hBz hnez hOz
      replace hSz : Sp wz1 b (fun _ => (most n)) [w.heap.size + 1 + 1] CL 0 wz2 := hSz
      have nb16 : Blk wz2 (γ 16) 21 [.int .i32 (mulqW (q1) (q1)).v, .int .i32 (mulqW (q2) (q2)).v] := (hBz 16 21 [.int .i32 (mulqW (q1) (q1)).v, .int .i32 (mulqW (q2) (q2)).v] (by kernel_rfl) [.int .i32 (mulqW (q1) (q1)).v, .int .i32 (mulqW (q2) (q2)).v] (by kernel_rfl)).1
      have nf16 : Fp wz1 b [w.heap.size + 1 + 1] [w.heap.size, w.heap.size + 1] wz2 (γ 16) := (hBz 16 21 [.int .i32 (mulqW (q1) (q1)).v, .int .i32 (mulqW (q2) (q2)).v] (by kernel_rfl) [.int .i32 (mulqW (q1) (q1)).v, .int .i32 (mulqW (q2) (q2)).v] (by kernel_rfl)).2.1
      have ob0 : Blk wz2 (w.heap.size + 1 + 1) 22 [.int .i32 0, .int .i32 0, .int .i32 0] := by have h := (hBz 19 22 [.int .i32 0, .int .i32 0, .int .i32 0] (by kernel_rfl) [.int .i32 0, .int .i32 0, .int .i32 0] (by kernel_rfl)).1; rw [hOz 19 (Nat.le_trans (Nat.le_of_eq (by kernel_rfl : _ = 19)) (by decide : 19 ≤ 19))] at h; exact h
      refine end_of [(8, .int .i32 (lessW (kW (536870912)) [mulqW (q1) (q1), mulqW (q2) (q2)]).v), (30, .agg #[.iface 74 (.pointer (some ⟨b, 0, none⟩))]), (31, .pointer (some ⟨w.heap.size, 0, none⟩)), (32, .iface 74 (.pointer (some ⟨b, 0, none⟩))), (33, .int .i32 (kW (536870912)).v), (34, .func (.func 92) #[.agg #[.iface 74 (.pointer (some ⟨b, 0, none⟩))]] #[]), (35, .pointer (some ⟨w.heap.size + 1, 1, none⟩)), (36, .int .i32 (q1).v), (37, .pointer (some ⟨w.heap.size + 1, 1, none⟩)), (38, .int .i32 (q1).v), (39, .int .i32 (mulqW (q1) (q1)).v), (40, .func (.func 92) #[.agg #[.iface 74 (.pointer (some ⟨b, 0, none⟩))]] #[]), (41, .pointer (some ⟨w.heap.size + 1, 2, none⟩)), (42, .int .i32 (q2).v), (43, .pointer (some ⟨w.heap.size + 1, 2, none⟩)), (44, .int .i32 (q2).v), (45, .int .i32 (mulqW (q2) (q2)).v), (46, .slice (some ⟨γ 16, 0, none⟩) 2 2), (47, .int .i32 (lessW (kW (536870912)) [mulqW (q1) (q1), mulqW (q2) (q2)]).v)] (by kernel_rfl) ?_
      clear hBz hnez hOz HS0
      simp only [Reg.of, List.foldl_cons, List.foldl_nil, List.setIfInBounds_toArray, List.set_cons_zero, List.set_cons_succ]
      generalize γ 16 = b16 at *
      have HC2 := hide (HC1.out.region hSz (by simp; try omega))
      have pl2 := hSz.pl
      have fr2_0 := hSz.apart hap (w.heap.size) (by simp)
      have fr2_1 := hSz.apart hap (w.heap.size + 1) (by simp)
      have fr2_2 := hSz.turn_far lt1_0 fr1_2
      have lt2_0 := ob0.lt
      have y2_0 : wz2.cell? ⟨w.heap.size, 0, none⟩ = some (.iface 74 (.pointer (some ⟨b, 0, none⟩))) := hSz.at_ 0 _ _ (by rw [hCL]; rfl)
      have y2_1 : wz2.cell? ⟨w.heap.size + 1, 0, none⟩ = some (.int .i32 (q0).v) := hSz.at_ 1 _ _ (by rw [hCL]; rfl)
      have y2_2 : wz2.cell? ⟨w.heap.size + 1, 1, none⟩ = some (.int .i32 (q1).v) := hSz.at_ 2 _ _ (by rw [hCL]; rfl)
      have y2_3 : wz2.cell? ⟨w.heap.size + 1, 2, none⟩ = some (.int .i32 (q2).v) := hSz.at_ 3 _ _ (by rw [hCL]; rfl)
      have y2_4 : wz2.cell? ⟨w.heap.size + 1, 3, none⟩ = some (.int .i32 (q3).v) := hSz.at_ 4 _ _ (by rw [hCL]; rfl)
      clear hSz hCL hap CL y1_0 y1_1 y1_2 y1_3 y1_4 HC1 mo1_0 fr1_0 fr1_1 fr1_2 lt1_0 pl1
      have mo2_0 := ob0
      clear ob0
      clear nb16 nf16
      go_wp2_with fail
      obtain ⟨CL, hCL⟩ : ∃ l : List (Addr × Value), l = [(⟨w.heap.size, 0, none⟩, .iface 74 (.pointer (some ⟨b, 0, none⟩))), (⟨w.heap.size + 1, 0, none⟩, .int .i32 (q0).v), (⟨w.heap.size + 1, 1, none⟩, .int .i32 (q1).v), (⟨w.heap.size + 1, 2, none⟩, .int .i32 (q2).v), (⟨w.heap.size + 1, 3, none⟩, .int .i32 (q3).v)] := ⟨_, rfl⟩
      have HS0 : Sp wz2 b (fun _ => (most n)) [w.heap.size + 1 + 1] CL 0 wz2.drew := Sp.start pl2 (by rw [hCL]; simp only [List.forall_mem_cons]; exact ⟨y2_0, y2_1, y2_2, y2_3, y2_4, by simp⟩)
      have hap : Apart wz2 b [w.heap.size + 1 + 1] [w.heap.size, w.heap.size + 1] CL := ⟨by rw [hCL]; simp only [List.forall_mem_cons]; exact ⟨by simp, by simp, by simp, by simp, by simp, by simp⟩, by simp only [List.forall_mem_cons]; exact ⟨World.block_lt_of_cell? _ _ y2_0, World.block_lt_of_cell? _ _ y2_1, by simp⟩, by simp only [List.forall_mem_cons]; exact ⟨fr2_0, fr2_1, by simp⟩, by simp only [List.forall_mem_cons]; exact ⟨⟨lt2_0, fr2_2⟩, by simp⟩⟩
      refine Reg.wp_region (Reg.of 16 _ _ [.agg #[.iface 74 (.pointer (some ⟨b, 0, none⟩))], .func (.func 92) #[.agg #[.iface 74 (.pointer (some ⟨b, 0, none⟩))]] #[], .pointer (some ⟨w.heap.size + 1, 0, none⟩), .int .i32 (q0).v, .pointer (some ⟨w.heap.size + 1, 2, none⟩), .int .i32 (q2).v, .int .i32 (mulqW (q0) (q2)).v, .func (.func 92) #[.agg #[.iface 74 (.pointer (some ⟨b, 0, none⟩))]] #[], .pointer (some ⟨w.heap.size + 1, 3, none⟩), .int .i32 (q3).v, .pointer (some ⟨w.heap.size + 1, 1, none⟩), .int .i32 (q1).v, .int .i32 (mulqW (q3) (q1)).v, undef, .int .i32 (lessW (mulqW (q0) (q2)) [mulqW (q3) (q1)]).v, .int .i32 (lessW (mulqW (q0) (q2)) [mulqW (q3) (q1)]).v] [fun _ => undef, fun _ => undef, fun _ => undef, fun _ => undef, fun _ => undef, fun _ => undef, fun _ => undef, fun _ => undef, fun _ => undef, fun _ => undef, fun _ => undef, fun _ => undef, fun _ => undef, fun g => .slice (some ⟨g, 0, none⟩) 1 1, fun _ => undef, fun _ => undef] [.val, .val, .val, .val, .val, .val, .val, .val, .val, .val, .val, .val, .val, .new 21 [.int .i32 (mulqW (q3) (q1)).v], .val, .val] [(22, [.int .i32 0, .int .i32 0, .int .i32 0])] [w.heap.size + 1 + 1] [] (Sp wz2 b (fun _ => (most n)) [w.heap.size + 1 + 1] CL) (Fp wz2 b [w.heap.size + 1 + 1] [w.heap.size, w.heap.size + 1])) (Reg.good_of _ 129 (by kernel_rfl) (by kernel_rfl)) (stands_p _ hap rfl rfl rfl) (by kernel_rfl) HS0 (hold_of (by kernel_rfl) ?holdwz3) (ne_of (by kernel_rfl) ?hnewz3) (Reg.steps_of _ rfl ⟨?_, ?_, ?_, ?_, ?_, ?_, ?_, ?_, ?_, ?_, ?_, ?_, ?_, ?_, ?_, ?_, trivial⟩) ?hendwz3
      case holdwz3 =>
        intro k T c hk
        cases k with
        | zero => simp only [List.getElem?_cons_zero, Option.some.injEq, Prod.mk.injEq] at hk; obtain ⟨rfl, rfl⟩ := hk; exact ⟨mo2_0, ⟨by simp; try omega, fr2_2, .inl (by simp)⟩⟩
        | succ k =>
          simp at hk
      case hnewz3 => intro i j hi hj hne; simp at hi hj; omega
      case hendwz3 =>
        intro wz3 γ hSz hBz hnez hOz
        replace hSz : Sp wz2 b (fun _ => (most n)) [w.heap.size + 1 + 1] CL 0 wz3 := hSz
        have nb13 : Blk wz3 (γ 13) 21 [.int .i32 (mulqW (q3) (q1)).v] := (hBz 13 21 [.int .i32 (mulqW (q3) (q1)).v] (by kernel_rfl) [.int .i32 (mulqW (q3) (q1)).v] (by kernel_rfl)).1
        have nf13 : Fp wz2 b [w.heap.size + 1 + 1] [w.heap.size, w.heap.size + 1] wz3 (γ 13) := (hBz 13 21 [.int .i32 (mulqW (q3) (q1)).v] (by kernel_rfl) [.int .i32 (mulqW (q3) (q1)).v] (by kernel_rfl)).2.1
        have ob0 : Blk wz3 (w.heap.size + 1 + 1) 22 [.int .i32 0, .int .i32 0, .int .i32 0] := by have h := (hBz 16 22 [.int .i32 0, .int .i32 0, .int .i32 0] (by kernel_rfl) [.int .i32 0, .int .i32 0, .int .i32 0] (by kernel_rfl)).1; rw [hOz 16 (Nat.le_trans (Nat.le_of_eq (by kernel_rfl : _ = 16)) (by decide : 16 ≤ 16))] at h; exact h
        refine end_of [(9, .int .i32 (lessW (mulqW (q0) (q2)) [mulqW (q3) (q1)]).v), (48, .agg #[.iface 74 (.pointer (some ⟨b, 0, none⟩))]), (49, .func (.func 92) #[.agg #[.iface 74 (.pointer (some ⟨b, 0, none⟩))]] #[]), (50, .pointer (some ⟨w.heap.size + 1, 0, none⟩)), (51, .int .i32 (q0).v), (52, .pointer (some ⟨w.heap.size + 1, 2, none⟩)), (53, .int .i32 (q2).v), (54, .int .i32 (mulqW (q0) (q2)).v), (55, .func (.func 92) #[.agg #[.iface 74 (.pointer (some ⟨b, 0, none⟩))]] #[]), (56, .pointer (some ⟨w.heap.size + 1, 3, none⟩)), (57, .int .i32 (q3).v), (58, .pointer (some ⟨w.heap.size + 1, 1, none⟩)), (59, .int .i32 (q1).v), (60, .int .i32 (mulqW (q3) (q1)).v), (61, .slice (some ⟨γ 13, 0, none⟩) 1 1), (62, .int .i32 (lessW (mulqW (q0) (q2)) [mulqW (q3) (q1)]).v)] (by kernel_rfl) ?_
        clear hBz hnez hOz HS0
        simp only [Reg.of, List.foldl_cons, List.foldl_nil, List.setIfInBounds_toArray, List.set_cons_zero, List.set_cons_succ]
        generalize γ 13 = b13 at *
        have HC3 := hide (HC2.out.region hSz (by simp; try omega))
        have pl3 := hSz.pl
        have fr3_0 := hSz.apart hap (w.heap.size) (by simp)
        have fr3_1 := hSz.apart hap (w.heap.size + 1) (by simp)
        have fr3_2 := hSz.turn_far lt2_0 fr2_2
        have lt3_0 := ob0.lt
        have y3_0 : wz3.cell? ⟨w.heap.size, 0, none⟩ = some (.iface 74 (.pointer (some ⟨b, 0, none⟩))) := hSz.at_ 0 _ _ (by rw [hCL]; rfl)
        have y3_1 : wz3.cell? ⟨w.heap.size + 1, 0, none⟩ = some (.int .i32 (q0).v) := hSz.at_ 1 _ _ (by rw [hCL]; rfl)
        have y3_2 : wz3.cell? ⟨w.heap.size + 1, 1, none⟩ = some (.int .i32 (q1).v) := hSz.at_ 2 _ _ (by rw [hCL]; rfl)
        have y3_3 : wz3.cell? ⟨w.heap.size + 1, 2, none⟩ = some (.int .i32 (q2).v) := hSz.at_ 3 _ _ (by rw [hCL]; rfl)
        have y3_4 : wz3.cell? ⟨w.heap.size + 1, 3, none⟩ = some (.int .i32 (q3).v) := hSz.at_ 4 _ _ (by rw [hCL]; rfl)
        clear hSz hCL hap CL y2_0 y2_1 y2_2 y2_3 y2_4 HC2 mo2_0 fr2_0 fr2_1 fr2_2 lt2_0 pl2
        have mo3_0 := ob0
        clear ob0
        clear nb13 nf13
        go_wp2_with fail
        obtain ⟨CL, hCL⟩ : ∃ l : List (Addr × Value), l = [(⟨w.heap.size, 0, none⟩, .iface 74 (.pointer (some ⟨b, 0, none⟩))), (⟨w.heap.size + 1, 0, none⟩, .int .i32 (q0).v), (⟨w.heap.size + 1, 1, none⟩, .int .i32 (q1).v), (⟨w.heap.size + 1, 2, none⟩, .int .i32 (q2).v), (⟨w.heap.size + 1, 3, none⟩, .int .i32 (q3).v)] := ⟨_, rfl⟩
        have HS0 : Sp wz3 b (fun _ => (most n)) [w.heap.size + 1 + 1] CL 0 wz3.drew := Sp.start pl3 (by rw [hCL]; simp only [List.forall_mem_cons]; exact ⟨y3_0, y3_1, y3_2, y3_3, y3_4, by simp⟩)
        have hap : Apart wz3 b [w.heap.size + 1 + 1] [w.heap.size, w.heap.size + 1] CL := ⟨by rw [hCL]; simp only [List.forall_mem_cons]; exact ⟨by simp, by simp, by simp, by simp, by simp, by simp⟩, by simp only [List.forall_mem_cons]; exact ⟨World.block_lt_of_cell? _ _ y3_0, World.block_lt_of_cell? _ _ y3_1, by simp⟩, by simp only [List.forall_mem_cons]; exact ⟨fr3_0, fr3_1, by simp⟩, by simp only [List.forall_mem_cons]; exact ⟨⟨lt3_0, fr3_2⟩, by simp⟩⟩
        refine Reg.wp_region (Reg.of 16 _ _ [.agg #[.iface 74 (.pointer (some ⟨b, 0, none⟩))], .func (.func 92) #[.agg #[.iface 74 (.pointer (some ⟨b, 0, none⟩))]] #[], .pointer (some ⟨w.heap.size + 1, 0, none⟩), .int .i32 (q0).v, .pointer (some ⟨w.heap.size + 1, 3, none⟩), .int .i32 (q3).v, .int .i32 (mulqW (q0) (q3)).v, .func (.func 92) #[.agg #[.iface 74 (.pointer (some ⟨b, 0, none⟩))]] #[], .pointer (some ⟨w.heap.size + 1, 1, none⟩), .int .i32 (q1).v, .pointer (some ⟨w.heap.size + 1, 2, none⟩), .int .i32 (q2).v, .int .i32 (mulqW (q1) (q2)).v, undef, .int .i32 (moreW (mulqW (q0) (q3)) [mulqW (q1) (q2)]).v, .int .i32 (moreW (mulqW (q0) (q3)) [mulqW (q1) (q2)]).v] [fun _ => undef, fun _ => undef, fun _ => undef, fun _ => undef, fun _ => undef, fun _ => undef, fun _ => undef, fun _ => undef, fun _ => undef, fun _ => undef, fun _ => undef, fun _ => undef, fun _ => undef, fun g => .slice (some ⟨g, 0, none⟩) 1 1, fun _ => undef, fun _ => undef] [.val, .val, .val, .val, .val, .val, .val, .val, .val, .val, .val, .val, .val, .new 21 [.int .i32 (mulqW (q1) (q2)).v], .val, .val] [(22, [.int .i32 0, .int .i32 0, .int .i32 0])] [w.heap.size + 1 + 1] [] (Sp wz3 b (fun _ => (most n)) [w.heap.size + 1 + 1] CL) (Fp wz3 b [w.heap.size + 1 + 1] [w.heap.size, w.heap.size + 1])) (Reg.good_of _ 129 (by kernel_rfl) (by kernel_rfl)) (stands_p _ hap rfl rfl rfl) (by kernel_rfl) HS0 (hold_of (by kernel_rfl) ?holdwz4) (ne_of (by kernel_rfl) ?hnewz4) (Reg.steps_of _ rfl ⟨?_, ?_, ?_, ?_, ?_, ?_, ?_, ?_, ?_, ?_, ?_, ?_, ?_, ?_, ?_, ?_, trivial⟩) ?hendwz4
        case holdwz4 =>
          intro k T c hk
          cases k with
          | zero => simp only [List.getElem?_cons_zero, Option.some.injEq, Prod.mk.injEq] at hk; obtain ⟨rfl, rfl⟩ := hk; exact ⟨mo3_0, ⟨by simp; try omega, fr3_2, .inl (by simp)⟩⟩
          | succ k =>
            simp at hk
        case hnewz4 => intro i j hi hj hne; simp at hi hj; omega
        case hendwz4 =>
          intro wz4 γ hSz hBz hnez hOz
          replace hSz : Sp wz3 b (fun _ => (most n)) [w.heap.size + 1 + 1] CL 0 wz4 := hSz
          have nb13 : Blk wz4 (γ 13) 21 [.int .i32 (mulqW (q1) (q2)).v] := (hBz 13 21 [.int .i32 (mulqW (q1) (q2)).v] (by kernel_rfl) [.int .i32 (mulqW (q1) (q2)).v] (by kernel_rfl)).1
          have nf13 : Fp wz3 b [w.heap.size + 1 + 1] [w.heap.size, w.heap.size + 1] wz4 (γ 13) := (hBz 13 21 [.int .i32 (mulqW (q1) (q2)).v] (by kernel_rfl) [.int .i32 (mulqW (q1) (q2)).v] (by kernel_rfl)).2.1
          have ob0 : Blk wz4 (w.heap.size + 1 + 1) 22 [.int .i32 0, .int .i32 0, .int .i32 0] := by have h := (hBz 16 22 [.int .i32 0, .int .i32 0, .int .i32 0] (by kernel_rfl) [.int .i32 0, .int .i32 0, .int .i32 0] (by kernel_rfl)).1; rw [hOz 16 (Nat.le_trans (Nat.le_of_eq (by kernel_rfl : _ = 16)) (by decide : 16 ≤ 16))] at h; exact h
          refine end_of [(10, .int .i32 (moreW (mulqW (q0) (q3)) [mulqW (q1) (q2)]).v), (63, .agg #[.iface 74 (.pointer (some ⟨b, 0, none⟩))]), (64, .func (.func 92) #[.agg #[.iface 74 (.pointer (some ⟨b, 0, none⟩))]] #[]), (65, .pointer (some ⟨w.heap.size + 1, 0, none⟩)), (66, .int .i32 (q0).v), (67, .pointer (some ⟨w.heap.size + 1, 3, none⟩)), (68, .int .i32 (q3).v), (69, .int .i32 (mulqW (q0) (q3)).v), (70, .func (.func 92) #[.agg #[.iface 74 (.pointer (some ⟨b, 0, none⟩))]] #[]), (71, .pointer (some ⟨w.heap.size + 1, 1, none⟩)), (72, .int .i32 (q1).v), (73, .pointer (some ⟨w.heap.size + 1, 2, none⟩)), (74, .int .i32 (q2).v), (75, .int .i32 (mulqW (q1) (q2)).v), (76, .slice (some ⟨γ 13, 0, none⟩) 1 1), (77, .int .i32 (moreW (mulqW (q0) (q3)) [mulqW (q1) (q2)]).v)] (by kernel_rfl) ?_
          clear hBz hnez hOz HS0
          simp only [Reg.of, List.foldl_cons, List.foldl_nil, List.setIfInBounds_toArray, List.set_cons_zero, List.set_cons_succ]
          generalize γ 13 = b13 at *
          have HC4 := hide (HC3.out.region hSz (by simp; try omega))
          have pl4 := hSz.pl
          have fr4_0 := hSz.apart hap (w.heap.size) (by simp)
          have fr4_1 := hSz.apart hap (w.heap.size + 1) (by simp)
          have fr4_2 := hSz.turn_far lt3_0 fr3_2
          have lt4_0 := ob0.lt
          have y4_0 : wz4.cell? ⟨w.heap.size, 0, none⟩ = some (.iface 74 (.pointer (some ⟨b, 0, none⟩))) := hSz.at_ 0 _ _ (by rw [hCL]; rfl)
          have y4_1 : wz4.cell? ⟨w.heap.size + 1, 0, none⟩ = some (.int .i32 (q0).v) := hSz.at_ 1 _ _ (by rw [hCL]; rfl)
          have y4_2 : wz4.cell? ⟨w.heap.size + 1, 1, none⟩ = some (.int .i32 (q1).v) := hSz.at_ 2 _ _ (by rw [hCL]; rfl)
          have y4_3 : wz4.cell? ⟨w.heap.size + 1, 2, none⟩ = some (.int .i32 (q2).v) := hSz.at_ 3 _ _ (by rw [hCL]; rfl)
          have y4_4 : wz4.cell? ⟨w.heap.size + 1, 3, none⟩ = some (.int .i32 (q3).v) := hSz.at_ 4 _ _ (by rw [hCL]; rfl)
          clear hSz hCL hap CL y3_0 y3_1 y3_2 y3_3 y3_4 HC3 mo3_0 fr3_0 fr3_1 fr3_2 lt3_0 pl3
          have mo4_0 := ob0
          clear ob0
          clear nb13 nf13
          go_wp2_with fail
          obtain ⟨CL, hCL⟩ : ∃ l : List (Addr × Value), l = [(⟨w.heap.size, 0, none⟩, .iface 74 (.pointer (some ⟨b, 0, none⟩))), (⟨w.heap.size + 1, 0, none⟩, .int .i32 (q0).v), (⟨w.heap.size + 1, 1, none⟩, .int .i32 (q1).v), (⟨w.heap.size + 1, 2, none⟩, .int .i32 (q2).v), (⟨w.heap.size + 1, 3, none⟩, .int .i32 (q3).v)] := ⟨_, rfl⟩
          have HS0 : Sp wz4 b (fun _ => (most n)) [w.heap.size + 1 + 1] CL 0 wz4.drew := Sp.start pl4 (by rw [hCL]; simp only [List.forall_mem_cons]; exact ⟨y4_0, y4_1, y4_2, y4_3, y4_4, by simp⟩)
          have hap : Apart wz4 b [w.heap.size + 1 + 1] [w.heap.size, w.heap.size + 1] CL := ⟨by rw [hCL]; simp only [List.forall_mem_cons]; exact ⟨by simp, by simp, by simp, by simp, by simp, by simp⟩, by simp only [List.forall_mem_cons]; exact ⟨World.block_lt_of_cell? _ _ y4_0, World.block_lt_of_cell? _ _ y4_1, by simp⟩, by simp only [List.forall_mem_cons]; exact ⟨fr4_0, fr4_1, by simp⟩, by simp only [List.forall_mem_cons]; exact ⟨⟨lt4_0, fr4_2⟩, by simp⟩⟩
          refine Reg.wp_region (Reg.of 19 _ _ [.agg #[.iface 74 (.pointer (some ⟨b, 0, none⟩))], .pointer (some ⟨w.heap.size, 0, none⟩), .iface 74 (.pointer (some ⟨b, 0, none⟩)), .int .i32 (kW (536870912)).v, .func (.func 92) #[.agg #[.iface 74 (.pointer (some ⟨b, 0, none⟩))]] #[], .pointer (some ⟨w.heap.size + 1, 2, none⟩), .int .i32 (q2).v, .pointer (some ⟨w.heap.size + 1, 2, none⟩), .int .i32 (q2).v, .int .i32 (mulqW (q2) (q2)).v, .func (.func 92) #[.agg #[.iface 74 (.pointer (some ⟨b, 0, none⟩))]] #[], .pointer (some ⟨w.heap.size + 1, 3, none⟩), .int .i32 (q3).v, .pointer (some ⟨w.heap.size + 1, 3, none⟩), .int .i32 (q3).v, .int .i32 (mulqW (q3) (q3)).v, undef, .int .i32 (lessW (kW (536870912)) [mulqW (q2) (q2), mulqW (q3) (q3)]).v, .int .i32 (lessW (kW (536870912)) [mulqW (q2) (q2), mulqW (q3) (q3)]).v] [fun _ => undef, fun _ => undef, fun _ => undef, fun _ => undef, fun _ => undef, fun _ => undef, fun _ => undef, fun _ => undef, fun _ => undef, fun _ => undef, fun _ => undef, fun _ => undef, fun _ => undef, fun _ => undef, fun _ => undef, fun _ => undef, fun g => .slice (some ⟨g, 0, none⟩) 2 2, fun _ => undef, fun _ => undef] [.val, .val, .val, .val, .val, .val, .val, .val, .val, .val, .val, .val, .val, .val, .val, .val, .new 21 [.int .i32 (mulqW (q2) (q2)).v, .int .i32 (mulqW (q3) (q3)).v], .val, .val] [(22, [.int .i32 0, .int .i32 0, .int .i32 0])] [w.heap.size + 1 + 1] [] (Sp wz4 b (fun _ => (most n)) [w.heap.size + 1 + 1] CL) (Fp wz4 b [w.heap.size + 1 + 1] [w.heap.size, w.heap.size + 1])) (Reg.good_of _ 129 (by kernel_rfl) (by kernel_rfl)) (stands_p _ hap rfl rfl rfl) (by kernel_rfl) HS0 (hold_of (by kernel_rfl) ?holdwz5) (ne_of (by kernel_rfl) ?hnewz5) (Reg.steps_of _ rfl ⟨?_, ?_, ?_, ?_, ?_, ?_, ?_, ?_, ?_, ?_, ?_, ?_, ?_, ?_, ?_, ?_, ?_, ?_, ?_, trivial⟩) ?hendwz5
          case holdwz5 =>
            intro k T c hk
            cases k with
            | zero => simp only [List.getElem?_cons_zero, Option.some.injEq, Prod.mk.injEq] at hk; obtain ⟨rfl, rfl⟩ := hk; exact ⟨mo4_0, ⟨by simp; try omega, fr4_2, .inl (by simp)⟩⟩
            | succ k =>
              simp at hk
          case hnewz5 => intro i j hi hj hne; simp at hi hj; omega
          case hendwz5 =>
            intro wz5 γ hSz hBz hnez hOz
            replace hSz : Sp wz4 b (fun _ => (most n)) [w.heap.size + 1 + 1] CL 0 wz5 := hSz
            have nb16 : Blk wz5 (γ 16) 21 [.int .i32 (mulqW (q2) (q2)).v, .int .i32 (mulqW (q3) (q3)).v] := (hBz 16 21 [.int .i32 (mulqW (q2) (q2)).v, .int .i32 (mulqW (q3) (q3)).v] (by kernel_rfl) [.int .i32 (mulqW (q2) (q2)).v, .int .i32 (mulqW (q3) (q3)).v] (by kernel_rfl)).1
            have nf16 : Fp wz4 b [w.heap.size + 1 + 1] [w.heap.size, w.heap.size + 1] wz5 (γ 16) := (hBz 16 21 [.int .i32 (mulqW (q2) (q2)).v, .int .i32 (mulqW (q3) (q3)).v] (by kernel_rfl) [.int .i32 (mulqW (q2) (q2)).v, .int .i32 (mulqW (q3) (q3)).v] (by kernel_rfl)).2.1
            have ob0 : Blk wz5 (w.heap.size + 1 + 1) 22 [.int .i32 0, .int .i32 0, .int .i32 0] := by have h := (hBz 19 22 [.int .i32 0, .int .i32 0, .int .i32 0] (by kernel_rfl) [.int .i32 0, .int .i32 0, .int .i32 0] (by kernel_rfl)).1; rw [hOz 19 (Nat.le_trans (Nat.le_of_eq (by kernel_rfl : _ = 19)) (by decide : 19 ≤ 19))] at h; exact h
            refine end_of [(11, .int .i32 (lessW (kW (536870912)) [mulqW (q2) (q2), mulqW (q3) (q3)]).v), (78, .agg #[.iface 74 (.pointer (some ⟨b, 0, none⟩))]), (79, .pointer (some ⟨w.heap.size, 0, none⟩)), (80, .iface 74 (.pointer (some ⟨b, 0, none⟩))), (81, .int .i32 (kW (536870912)).v), (82, .func (.func 92) #[.agg #[.iface 74 (.pointer (some ⟨b, 0, none⟩))]] #[]), (83, .pointer (some ⟨w.heap.size + 1, 2, none⟩)), (84, .int .i32 (q2).v), (85, .pointer (some ⟨w.heap.size + 1, 2, none⟩)), (86, .int .i32 (q2).v), (87, .int .i32 (mulqW (q2) (q2)).v), (88, .func (.func 92) #[.agg #[.iface 74 (.pointer (some ⟨b, 0, none⟩))]] #[]), (89, .pointer (some ⟨w.heap.size + 1, 3, none⟩)), (90, .int .i32 (q3).v), (91, .pointer (some ⟨w.heap.size + 1, 3, none⟩)), (92, .int .i32 (q3).v), (93, .int .i32 (mulqW (q3) (q3)).v), (94, .slice (some ⟨γ 16, 0, none⟩) 2 2), (95, .int .i32 (lessW (kW (536870912)) [mulqW (q2) (q2), mulqW (q3) (q3)]).v)] (by kernel_rfl) ?_
            clear hBz hnez hOz HS0
            simp only [Reg.of, List.foldl_cons, List.foldl_nil, List.setIfInBounds_toArray, List.set_cons_zero, List.set_cons_succ]
            generalize γ 16 = b16 at *
            have HC5 := hide (HC4.out.region hSz (by simp; try omega))
            have pl5 := hSz.pl
            have fr5_0 := hSz.apart hap (w.heap.size) (by simp)
            have fr5_1 := hSz.apart hap (w.heap.size + 1) (by simp)
            have fr5_2 := hSz.turn_far lt4_0 fr4_2
            have lt5_0 := ob0.lt
            have y5_0 : wz5.cell? ⟨w.heap.size, 0, none⟩ = some (.iface 74 (.pointer (some ⟨b, 0, none⟩))) := hSz.at_ 0 _ _ (by rw [hCL]; rfl)
            have y5_1 : wz5.cell? ⟨w.heap.size + 1, 0, none⟩ = some (.int .i32 (q0).v) := hSz.at_ 1 _ _ (by rw [hCL]; rfl)
            have y5_2 : wz5.cell? ⟨w.heap.size + 1, 1, none⟩ = some (.int .i32 (q1).v) := hSz.at_ 2 _ _ (by rw [hCL]; rfl)
            have y5_3 : wz5.cell? ⟨w.heap.size + 1, 2, none⟩ = some (.int .i32 (q2).v) := hSz.at_ 3 _ _ (by rw [hCL]; rfl)
            have y5_4 : wz5.cell? ⟨w.heap.size + 1, 3, none⟩ = some (.int .i32 (q3).v) := hSz.at_ 4 _ _ (by rw [hCL]; rfl)
            clear hSz hCL hap CL y4_0 y4_1 y4_2 y4_3 y4_4 HC4 mo4_0 fr4_0 fr4_1 fr4_2 lt4_0 pl4
            have mo5_0 := ob0
            clear ob0
            clear nb16 nf16
            go_wp2_with fail
            clear y5_1 y5_2 y5_3 y5_4 fr5_1
            obtain ⟨CL, hCL⟩ : ∃ l : List (Addr × Value), l = [(⟨w.heap.size, 0, none⟩, .iface 74 (.pointer (some ⟨b, 0, none⟩)))] := ⟨_, rfl⟩
            have HS0 : Sp wz5 b (fun k => most (n + (match k with | 0 => 0 | 1 => 3 | 2 => 3 | 3 => 4 | 4 => 7 | _ => 10))) [w.heap.size + 1 + 1] CL 0 wz5.drew := Sp.start pl5 (by rw [hCL]; simp only [List.forall_mem_cons]; exact ⟨y5_0, by simp⟩)
            have hap : Apart wz5 b [w.heap.size + 1 + 1] [w.heap.size] CL := ⟨by rw [hCL]; simp only [List.forall_mem_cons]; exact ⟨by simp, by simp⟩, by simp only [List.forall_mem_cons]; exact ⟨World.block_lt_of_cell? _ _ y5_0, by simp⟩, by simp only [List.forall_mem_cons]; exact ⟨fr5_0, by simp⟩, by simp only [List.forall_mem_cons]; exact ⟨⟨lt5_0, fr5_2⟩, by simp⟩⟩
            refine Reg.wp_region (Reg.of 21 _ _ [.agg #[.iface 74 (.pointer (some ⟨b, 0, none⟩))], .int .i32 (anglesY q0 q1 q2 q3).v, .int .i32 (anglesX q0 q1 q2 q3).v, .int .i32 (angleW (anglesY q0 q1 q2 q3) (anglesX q0 q1 q2 q3)).v, .agg #[.iface 74 (.pointer (some ⟨b, 0, none⟩))], .int .i32 (anglesS q0 q1 q2 q3).v, .agg #[.iface 74 (.pointer (some ⟨b, 0, none⟩))], .agg #[.iface 74 (.pointer (some ⟨b, 0, none⟩))], .int .i32 (anglesX q0 q1 q2 q3).v, .int .i32 (anglesY q0 q1 q2 q3).v, undef, .int .i32 (normW (anglesX q0 q1 q2 q3) [anglesY q0 q1 q2 q3]).v, .int .i32 (sqrtW (normW (anglesX q0 q1 q2 q3) [anglesY q0 q1 q2 q3])).v, .int .i32 (angleW (anglesS q0 q1 q2 q3) (sqrtW (normW (anglesX q0 q1 q2 q3) [anglesY q0 q1 q2 q3]))).v, .agg #[.iface 74 (.pointer (some ⟨b, 0, none⟩))], .int .i32 (anglesU q0 q1 q2 q3).v, .int .i32 (anglesV q0 q1 q2 q3).v, .int .i32 (angleW (anglesU q0 q1 q2 q3) (anglesV q0 q1 q2 q3)).v, .agg #[.int .i32 (angleW (anglesY q0 q1 q2 q3) (anglesX q0 q1 q2 q3)).v, .int .i32 (angleW (anglesS q0 q1 q2 q3) (sqrtW (normW (anglesX q0 q1 q2 q3) [anglesY q0 q1 q2 q3]))).v, .int .i32 (angleW (anglesU q0 q1 q2 q3) (anglesV q0 q1 q2 q3)).v], undef, undef] [fun _ => undef, fun _ => undef, fun _ => undef, fun _ => undef, fun _ => undef, fun _ => undef, fun _ => undef, fun _ => undef, fun _ => undef, fun _ => undef, fun g => .slice (some ⟨g, 0, none⟩) 2 2, fun _ => undef, fun _ => undef, fun _ => undef, fun _ => undef, fun _ => undef, fun _ => undef, fun _ => undef, fun _ => undef, fun g => .pointer (some ⟨g, 0, none⟩), fun _ => undef] [.val, .val, .val, .val, .val, .val, .val, .val, .val, .val, .new 21 [.int .i32 (anglesX q0 q1 q2 q3).v, .int .i32 (anglesY q0 q1 q2 q3).v], .val, .val, .val, .val, .val, .val, .val, .val, .new 22 [.int .i32 0, .int .i32 0, .int .i32 0], .put 19 [.int .i32 (angleW (anglesY q0 q1 q2 q3) (anglesX q0 q1 q2 q3)).v, .int .i32 (angleW (anglesS q0 q1 q2 q3) (sqrtW (normW (anglesX q0 q1 q2 q3) [anglesY q0 q1 q2 q3]))).v, .int .i32 (angleW (anglesU q0 q1 q2 q3) (anglesV q0 q1 q2 q3)).v]] [(22, [.int .i32 0, .int .i32 0, .int .i32 0])] [w.heap.size + 1 + 1] [3, 11, 12, 13, 17] (Sp wz5 b (fun k => most (n + (match k with | 0 => 0 | 1 => 3 | 2 => 3 | 3 => 4 | 4 => 7 | _ => 10))) [w.heap.size + 1 + 1] CL) (Fp wz5 b [w.heap.size + 1 + 1] [w.heap.size])) (Reg.good_of _ 129 (by kernel_rfl) (by kernel_rfl)) (stands_p _ hap rfl rfl rfl) (by kernel_rfl) HS0 (hold_of (by kernel_rfl) ?holdwz6) (ne_of (by kernel_rfl) ?hnewz6) (Reg.steps_of _ rfl ⟨?_, ?_, ?_, ?_, ?_, ?_, ?_, ?_, ?_, ?_, ?_, ?_, ?_, ?_, ?_, ?_, ?_, ?_, ?_, ?_, ?_, trivial⟩) ?hendwz6
            case holdwz6 =>
              intro k T c hk
              cases k with
              | zero => simp only [List.getElem?_cons_zero, Option.some.injEq, Prod.mk.injEq] at hk; obtain ⟨rfl, rfl⟩ := hk; exact ⟨mo5_0, ⟨by simp; try omega, fr5_2, .inl (by simp)⟩⟩
              | succ k =>
                simp at hk
            case hnewz6 => intro i j hi hj hne; simp at hi hj; omega
            case hendwz6 =>
              intro wz6 γ hSz hBz hnez hOz
              replace hSz : Sp wz5 b (fun k => most (n + (match k with | 0 => 0 | 1 => 3 | 2 => 3 | 3 => 4 | 4 => 7 | _ => 10))) [w.heap.size + 1 + 1] CL 5 wz6 := hSz
              have nb10 : Blk wz6 (γ 10) 21 [.int .i32 (anglesX q0 q1 q2 q3).v, .int .i32 (anglesY q0 q1 q2 q3).v] := (hBz 10 21 [.int .i32 (anglesX q0 q1 q2 q3).v, .int .i32 (anglesY q0 q1 q2 q3).v] (by kernel_rfl) [.int .i32 (anglesX q0 q1 q2 q3).v, .int .i32 (anglesY q0 q1 q2 q3).v] (by kernel_rfl)).1
              have nf10 : Fp wz5 b [w.heap.size + 1 + 1] [w.heap.size] wz6 (γ 10) := (hBz 10 21 [.int .i32 (anglesX q0 q1 q2 q3).v, .int .i32 (anglesY q0 q1 q2 q3).v] (by kernel_rfl) [.int .i32 (anglesX q0 q1 q2 q3).v, .int .i32 (anglesY q0 q1 q2 q3).v] (by kernel_rfl)).2.1
              have nb19 : Blk wz6 (γ 19) 22 [.int .i32 (angleW (anglesY q0 q1 q2 q3) (anglesX q0 q1 q2 q3)).v, .int .i32 (angleW (anglesS q0 q1 q2 q3) (sqrtW (normW (anglesX q0 q1 q2 q3) [anglesY q0 q1 q2 q3]))).v, .int .i32 (angleW (anglesU q0 q1 q2 q3) (anglesV q0 q1 q2 q3)).v] := (hBz 19 22 [.int .i32 0, .int .i32 0, .int .i32 0] (by kernel_rfl) [.int .i32 (angleW (anglesY q0 q1 q2 q3) (anglesX q0 q1 q2 q3)).v, .int .i32 (angleW (anglesS q0 q1 q2 q3) (sqrtW (normW (anglesX q0 q1 q2 q3) [anglesY q0 q1 q2 q3]))).v, .int .i32 (angleW (anglesU q0 q1 q2 q3) (anglesV q0 q1 q2 q3)).v] (by kernel_rfl)).1
              have nf19 : Fp wz5 b [w.heap.size + 1 + 1] [w.heap.size] wz6 (γ 19) := (hBz 19 22 [.int .i32 0, .int .i32 0, .int .i32 0] (by kernel_rfl) [.int .i32 (angleW (anglesY q0 q1 q2 q3) (anglesX q0 q1 q2 q3)).v, .int .i32 (angleW (anglesS q0 q1 q2 q3) (sqrtW (normW (anglesX q0 q1 q2 q3) [anglesY q0 q1 q2 q3]))).v, .int .i32 (angleW (anglesU q0 q1 q2 q3) (anglesV q0 q1 q2 q3)).v] (by kernel_rfl)).2.1
              have ob0 : Blk wz6 (w.heap.size + 1 + 1) 22 [.int .i32 0, .int .i32 0, .int .i32 0] := by have h := (hBz 21 22 [.int .i32 0, .int .i32 0, .int .i32 0] (by kernel_rfl) [.int .i32 0, .int .i32 0, .int .i32 0] (by kernel_rfl)).1; rw [hOz 21 (Nat.le_trans (Nat.le_of_eq (by kernel_rfl : _ = 21)) (by decide : 21 ≤ 21))] at h; exact h
              have ne19_o0 : γ 19 ≠ w.heap.size + 1 + 1 := fun hne => hnez 19 21 (by kernel_rfl) (by kernel_rfl) (by decide) (hne.trans (hOz 21 (Nat.le_trans (Nat.le_of_eq (by kernel_rfl : _ = 21)) (by decide : 21 ≤ 21))).symm)
              refine end_of [(12, .pointer (some ⟨γ 19, 0, none⟩)), (96, .agg #[.iface 74 (.pointer (some ⟨b, 0, none⟩))]), (97, .int .i32 (anglesY q0 q1 q2 q3).v), (98, .int .i32 (anglesX q0 q1 q2 q3).v), (99, .int .i32 (angleW (anglesY q0 q1 q2 q3) (anglesX q0 q1 q2 q3)).v), (100, .agg #[.iface 74 (.pointer (some ⟨b, 0, none⟩))]), (101, .int .i32 (anglesS q0 q1 q2 q3).v), (102, .agg #[.iface 74 (.pointer (some ⟨b, 0, none⟩))]), (103, .agg #[.iface 74 (.pointer (some ⟨b, 0, none⟩))]), (104, .int .i32 (anglesX q0 q1 q2 q3).v), (105, .int .i32 (anglesY q0 q1 q2 q3).v), (106, .slice (some ⟨γ 10, 0, none⟩) 2 2), (107, .int .i32 (normW (anglesX q0 q1 q2 q3) [anglesY q0 q1 q2 q3]).v), (108, .int .i32 (sqrtW (normW (anglesX q0 q1 q2 q3) [anglesY q0 q1 q2 q3])).v), (109, .int .i32 (angleW (anglesS q0 q1 q2 q3) (sqrtW (normW (anglesX q0 q1 q2 q3) [anglesY q0 q1 q2 q3]))).v), (110, .agg #[.iface 74 (.pointer (some ⟨b, 0, none⟩))]), (111, .int .i32 (anglesU q0 q1 q2 q3).v), (112, .int .i32 (anglesV q0 q1 q2 q3).v), (113, .int .i32 (angleW (anglesU q0 q1 q2 q3) (anglesV q0 q1 q2 q3)).v), (114, .agg #[.int .i32 (angleW (anglesY q0 q1 q2 q3) (anglesX q0 q1 q2 q3)).v, .int .i32 (angleW (anglesS q0 q1 q2 q3) (sqrtW (normW (anglesX q0 q1 q2 q3) [anglesY q0 q1 q2 q3]))).v, .int .i32 (angleW (anglesU q0 q1 q2 q3) (anglesV q0 q1 q2 q3)).v])] (by kernel_rfl) ?_
              clear hBz hnez hOz HS0
              simp only [Reg.of, List.foldl_cons, List.foldl_nil, List.setIfInBounds_toArray, List.set_cons_zero, List.set_cons_succ]
              generalize γ 10 = b10 at *
              generalize γ 19 = b19 at *
              have HC6 := hide (HC5.out.region hSz (by simp; try omega))
              have pl6 := hSz.pl
              have fr6_0 := hSz.apart hap (w.heap.size) (by simp)
              have fr6_1 := hSz.turn_far lt5_0 fr5_2
              have lt6_0 := ob0.lt
              have y6_0 : wz6.cell? ⟨w.heap.size, 0, none⟩ = some (.iface 74 (.pointer (some ⟨b, 0, none⟩))) := hSz.at_ 0 _ _ (by rw [hCL]; rfl)
              clear hSz hCL hap CL y5_0 HC5 mo5_0 fr5_0 fr5_2 lt5_0 pl5
              have mo6_0 := ob0
              clear ob0
              clear nb10 nf10
              generalize b19 = b6_19 at *
              have nq6_19_0 : b6_19 ≠ w.heap.size + 1 + 1 := ne19_o0
              clear ne19_o0
              have yn6_19_0 : wz6.cell? ⟨b6_19, 0, none⟩ = some (.int .i32 (angleW (anglesY q0 q1 q2 q3) (anglesX q0 q1 q2 q3)).v) := nb19.cell' (i := 0) rfl
              have yn6_19_1 : wz6.cell? ⟨b6_19, 1, none⟩ = some (.int .i32 (angleW (anglesS q0 q1 q2 q3) (sqrtW (normW (anglesX q0 q1 q2 q3) [anglesY q0 q1 q2 q3]))).v) := nb19.cell' (i := 1) rfl
              have yn6_19_2 : wz6.cell? ⟨b6_19, 2, none⟩ = some (.int .i32 (angleW (anglesU q0 q1 q2 q3) (anglesV q0 q1 q2 q3)).v) := nb19.cell' (i := 2) rfl
              have fn6_19 := nf19.2.1
              replace pl6 : PlR wz6 b (most (n + 10)) := pl6
              go_wp2_with fail
              obtain ⟨CL, hCL⟩ : ∃ l : List (Addr × Value), l = [(⟨w.heap.size, 0, none⟩, .iface 74 (.pointer (some ⟨b, 0, none⟩))), (⟨b6_19, 0, none⟩, .int .i32 ((anglesW q0 q1 q2 q3).a).v), (⟨b6_19, 1, none⟩, .int .i32 ((anglesW q0 q1 q2 q3).b).v), (⟨b6_19, 2, none⟩, .int .i32 ((anglesW q0 q1 q2 q3).c).v)] := ⟨_, rfl⟩
              have HS0 : Sp wz6 b (fun _ => (most (n + 10))) [w.heap.size + 1 + 1] CL 0 wz6.drew := Sp.start pl6 (by rw [hCL]; simp only [List.forall_mem_cons]; exact ⟨y6_0, yn6_19_0, yn6_19_1, yn6_19_2, by simp⟩)
              have hap : Apart wz6 b [w.heap.size + 1 + 1] [b6_19, w.heap.size] CL := ⟨by rw [hCL]; simp only [List.forall_mem_cons]; exact ⟨by simp, by simp, by simp, by simp, by simp⟩, by simp only [List.forall_mem_cons]; exact ⟨World.block_lt_of_cell? _ _ yn6_19_0, World.block_lt_of_cell? _ _ y6_0, by simp⟩, by simp only [List.forall_mem_cons]; exact ⟨fn6_19, fr6_0, by simp⟩, by simp only [List.forall_mem_cons]; exact ⟨⟨lt6_0, fr6_1⟩, by simp⟩⟩
              refine Reg.wp_region (Reg.of 16 _ _ [.agg #[.int .i32 ((anglesW q0 q1 q2 q3).a).v, .int .i32 ((anglesW q0 q1 q2 q3).b).v, .int .i32 ((anglesW q0 q1 q2 q3).c).v], .agg #[.iface 74 (.pointer (some ⟨b, 0, none⟩))], .agg #[.iface 74 (.pointer (some ⟨b, 0, none⟩))], .agg #[.iface 74 (.pointer (some ⟨b, 0, none⟩))], .int .i32 (anglesS q0 q1 q2 q3).v, .int .i32 (absW (anglesS q0 q1 q2 q3)).v, .pointer (some ⟨w.heap.size, 0, none⟩), .iface 74 (.pointer (some ⟨b, 0, none⟩)), .int .i32 (kW (536000000)).v, .int .i32 (sltW (absW (anglesS q0 q1 q2 q3)) (kW (536000000))).v, .pointer (some ⟨w.heap.size, 0, none⟩), .iface 74 (.pointer (some ⟨b, 0, none⟩)), .int .i32 (kW (1)).v, .int .i32 (subW (sltW (absW (anglesS q0 q1 q2 q3)) (kW (536000000))) (kW (1))).v, undef, .int .i32 (subW (sltW (absW (anglesS q0 q1 q2 q3)) (kW (536000000))) (kW (1))).v] [fun _ => undef, fun _ => undef, fun _ => undef, fun _ => undef, fun _ => undef, fun _ => undef, fun _ => undef, fun _ => undef, fun _ => undef, fun _ => undef, fun _ => undef, fun _ => undef, fun _ => undef, fun _ => undef, fun _ => undef, fun _ => undef] [.val, .val, .val, .val, .val, .val, .val, .val, .val, .val, .val, .val, .val, .val, .put 16 [.int .i32 ((anglesW q0 q1 q2 q3).a).v, .int .i32 ((anglesW q0 q1 q2 q3).b).v, .int .i32 ((anglesW q0 q1 q2 q3).c).v], .val] [(22, [.int .i32 0, .int .i32 0, .int .i32 0])] [w.heap.size + 1 + 1] [] (Sp wz6 b (fun _ => (most (n + 10))) [w.heap.size + 1 + 1] CL) (Fp wz6 b [w.heap.size + 1 + 1] [b6_19, w.heap.size])) (Reg.good_of _ 129 (by kernel_rfl) (by kernel_rfl)) (stands_p _ hap rfl rfl rfl) (by kernel_rfl) HS0 (hold_of (by kernel_rfl) ?holdwz7) (ne_of (by kernel_rfl) ?hnewz7) (Reg.steps_of _ rfl ⟨?_, ?_, ?_, ?_, ?_, ?_, ?_, ?_, ?_, ?_, ?_, ?_, ?_, ?_, ?_, ?_, trivial⟩) ?hendwz7
              case holdwz7 =>
                intro k T c hk
                cases k with
                | zero => simp only [List.getElem?_cons_zero, Option.some.injEq, Prod.mk.injEq] at hk; obtain ⟨rfl, rfl⟩ := hk; exact ⟨mo6_0, ⟨by simp; try omega, fr6_1, .inl (by simp)⟩⟩
                | succ k =>
                  simp at hk
              case hnewz7 => intro i j hi hj hne; simp at hi hj; omega
              case hendwz7 =>
                intro wz7 γ hSz hBz hnez hOz
                replace hSz : Sp wz6 b (fun _ => (most (n + 10))) [w.heap.size + 1 + 1] CL 0 wz7 := hSz
                have ob0 : Blk wz7 (w.heap.size + 1 + 1) 22 [.int .i32 ((anglesW q0 q1 q2 q3).a).v, .int .i32 ((anglesW q0 q1 q2 q3).b).v, .int .i32 ((anglesW q0 q1 q2 q3).c).v] := by have h := (hBz 16 22 [.int .i32 0, .int .i32 0, .int .i32 0] (by kernel_rfl) [.int .i32 ((anglesW q0 q1 q2 q3).a).v, .int .i32 ((anglesW q0 q1 q2 q3).b).v, .int .i32 ((anglesW q0 q1 q2 q3).c).v] (by kernel_rfl)).1; rw [hOz 16 (Nat.le_trans (Nat.le_of_eq (by kernel_rfl : _ = 16)) (by decide : 16 ≤ 16))] at h; exact h
                refine end_of [(5, .int .i32 (subW (sltW (absW (anglesS q0 q1 q2 q3)) (kW (536000000))) (kW (1))).v), (115, .agg #[.int .i32 ((anglesW q0 q1 q2 q3).a).v, .int .i32 ((anglesW q0 q1 q2 q3).b).v, .int .i32 ((anglesW q0 q1 q2 q3).c).v]), (116, .agg #[.iface 74 (.pointer (some ⟨b, 0, none⟩))]), (117, .agg #[.iface 74 (.pointer (some ⟨b, 0, none⟩))]), (118, .agg #[.iface 74 (.pointer (some ⟨b, 0, none⟩))]), (119, .int .i32 (anglesS q0 q1 q2 q3).v), (120, .int .i32 (absW (anglesS q0 q1 q2 q3)).v), (121, .pointer (some ⟨w.heap.size, 0, none⟩)), (122, .iface 74 (.pointer (some ⟨b, 0, none⟩))), (123, .int .i32 (kW (536000000)).v), (124, .int .i32 (sltW (absW (anglesS q0 q1 q2 q3)) (kW (536000000))).v), (125, .pointer (some ⟨w.heap.size, 0, none⟩)), (126, .iface 74 (.pointer (some ⟨b, 0, none⟩))), (127, .int .i32 (kW (1)).v), (128, .int .i32 (subW (sltW (absW (anglesS q0 q1 q2 q3)) (kW (536000000))) (kW (1))).v)] (by kernel_rfl) ?_
                clear hBz hnez hOz HS0
                simp only [Reg.of, List.foldl_cons, List.foldl_nil, List.setIfInBounds_toArray, List.set_cons_zero, List.set_cons_succ]
                have HC7 := hide (HC6.out.region hSz (by simp; try omega))
                have pl7 := hSz.pl
                have fr7_0 := hSz.apart hap (w.heap.size) (by simp)
                have fr7_1 := hSz.apart hap (b6_19) (by simp)
                have fr7_2 := hSz.turn_far lt6_0 fr6_1
                have lt7_0 := ob0.lt
                have y7_0 : wz7.cell? ⟨w.heap.size, 0, none⟩ = some (.iface 74 (.pointer (some ⟨b, 0, none⟩))) := hSz.at_ 0 _ _ (by rw [hCL]; rfl)
                have y7_1 : wz7.cell? ⟨b6_19, 0, none⟩ = some (.int .i32 ((anglesW q0 q1 q2 q3).a).v) := hSz.at_ 1 _ _ (by rw [hCL]; rfl)
                have y7_2 : wz7.cell? ⟨b6_19, 1, none⟩ = some (.int .i32 ((anglesW q0 q1 q2 q3).b).v) := hSz.at_ 2 _ _ (by rw [hCL]; rfl)
                have y7_3 : wz7.cell? ⟨b6_19, 2, none⟩ = some (.int .i32 ((anglesW q0 q1 q2 q3).c).v) := hSz.at_ 3 _ _ (by rw [hCL]; rfl)
                clear hSz hCL hap CL y6_0 yn6_19_0 yn6_19_1 yn6_19_2 HC6 mo6_0 fr6_0 fr6_1 fn6_19 lt6_0 pl6
                have mo7_0 := ob0
                clear ob0
                have xr0 := mo7_0.cell' (i := 0) rfl
                have xr1 := mo7_0.cell' (i := 1) rfl
                have xr2 := mo7_0.cell' (i := 2) rfl
                go_wp2
                refine bodyPost_ret (v := .tuple #[.agg #[.int .i32 (anglesW q0 q1 q2 q3).a.v, .int .i32 (anglesW q0 q1 q2 q3).b.v, .int .i32 (anglesW q0 q1 q2 q3).c.v], .int .i32 (lockedW q0 q1 q2 q3).v]) (by simp [results, Tryz.f50, go_sem, xr0, xr1, xr2]; first | rfl | exact ⟨rfl, rfl⟩ | exact ⟨rfl, rfl, rfl⟩) rfl ⟨rfl, pl7, HC7.out⟩
              · intro a wu γ nph K hp hK
                obtain ⟨e12a, e12b⟩ := hp.old_ 12 (.pointer (some ⟨b6_19, 0, none⟩))
                have hS : Sp wz6 b (fun _ => (most (n + 10))) [w.heap.size + 1 + 1] CL nph wu := hp.S
                have c1 := hS.at_ 1 ⟨b6_19, 0, none⟩ (.int .i32 ((anglesW q0 q1 q2 q3).a).v) (by rw [hCL]; rfl)
                have c2 := hS.at_ 2 ⟨b6_19, 1, none⟩ (.int .i32 ((anglesW q0 q1 q2 q3).b).v) (by rw [hCL]; rfl)
                have c3 := hS.at_ 3 ⟨b6_19, 2, none⟩ (.int .i32 ((anglesW q0 q1 q2 q3).c).v) (by rw [hCL]; rfl)
                have hk := hK.pure (.agg #[.int .i32 ((anglesW q0 q1 q2 q3).a).v, .int .i32 ((anglesW q0 q1 q2 q3).b).v, .int .i32 ((anglesW q0 q1 q2 q3).c).v]) hp.S
                clear hp hK hS
                go_simp
                exact hk
              · intro a wu γ nph K hp hK
                obtain ⟨e2a, e2b⟩ := hp.old_ 2 (.pointer (some ⟨w.heap.size, 0, none⟩))
                have hS : Sp wz6 b (fun _ => (most (n + 10))) [w.heap.size + 1 + 1] CL nph wu := hp.S
                have c0 := hS.at_ 0 ⟨w.heap.size, 0, none⟩ (.iface 74 (.pointer (some ⟨b, 0, none⟩))) (by rw [hCL]; rfl)
                have hk := hK.pure (.agg #[.iface 74 (.pointer (some ⟨b, 0, none⟩))]) hp.S
                clear hp hK hS
                go_simp
                exact hk
              · intro a wu γ nph K hp hK
                obtain ⟨e2a, e2b⟩ := hp.old_ 2 (.pointer (some ⟨w.heap.size, 0, none⟩))
                have hS : Sp wz6 b (fun _ => (most (n + 10))) [w.heap.size + 1 + 1] CL nph wu := hp.S
                have c0 := hS.at_ 0 ⟨w.heap.size, 0, none⟩ (.iface 74 (.pointer (some ⟨b, 0, none⟩))) (by rw [hCL]; rfl)
                have hk := hK.pure (.agg #[.iface 74 (.pointer (some ⟨b, 0, none⟩))]) hp.S
                clear hp hK hS
                go_simp
                exact hk
              · intro a wu γ nph K hp hK
                obtain ⟨e2a, e2b⟩ := hp.old_ 2 (.pointer (some ⟨w.heap.size, 0, none⟩))
                have hS : Sp wz6 b (fun _ => (most (n + 10))) [w.heap.size + 1 + 1] CL nph wu := hp.S
                have c0 := hS.at_ 0 ⟨w.heap.size, 0, none⟩ (.iface 74 (.pointer (some ⟨b, 0, none⟩))) (by rw [hCL]; rfl)
                have hk := hK.pure (.agg #[.iface 74 (.pointer (some ⟨b, 0, none⟩))]) hp.S
                clear hp hK hS
                go_simp
                exact hk
              · intro a wu γ nph K hp hK
                obtain ⟨e9a, e9b⟩ := hp.old_ 9 (.int .i32 (anglesS q0 q1 q2 q3).v)
                have hk := hK.pure (.int .i32 (anglesS q0 q1 q2 q3).v) hp.S
                clear hp hK
                go_simp
                exact hk
              · intro a wu γ nph K hp hK
                obtain ⟨e118a, e118b⟩ := hp.dep_ 118 3 (.agg #[.iface 74 (.pointer (some ⟨b, 0, none⟩))])
                obtain ⟨e119a, e119b⟩ := hp.dep_ 119 4 (.int .i32 (anglesS q0 q1 q2 q3).v)
                have hS : Sp wz6 b (fun _ => (most (n + 10))) [w.heap.size + 1 + 1] CL nph wu := hp.S
                have hk := hK.call (.int .i32 (absW (anglesS q0 q1 q2 q3)).v)
                clear hp hK
                go_simp
                refine (w_abs _ _ _).mono ?_
                rintro e w7 ⟨rfl, hcX⟩
                exact hk _ (hS.call hcX) (Reg.keep_callp _ rfl hS hcX)
              · intro a wu γ nph K hp hK
                obtain ⟨e2a, e2b⟩ := hp.old_ 2 (.pointer (some ⟨w.heap.size, 0, none⟩))
                have hk := hK.pure (.pointer (some ⟨w.heap.size, 0, none⟩)) hp.S
                clear hp hK
                go_simp
                exact hk
              · intro a wu γ nph K hp hK
                obtain ⟨e121a, e121b⟩ := hp.dep_ 121 6 (.pointer (some ⟨w.heap.size, 0, none⟩))
                have hS : Sp wz6 b (fun _ => (most (n + 10))) [w.heap.size + 1 + 1] CL nph wu := hp.S
                have c0 := hS.at_ 0 ⟨w.heap.size, 0, none⟩ (.iface 74 (.pointer (some ⟨b, 0, none⟩))) (by rw [hCL]; rfl)
                have hk := hK.pure (.iface 74 (.pointer (some ⟨b, 0, none⟩))) hp.S
                clear hp hK hS
                go_simp
                exact hk
              · intro a wu γ nph K hp hK
                obtain ⟨e122a, e122b⟩ := hp.dep_ 122 7 (.iface 74 (.pointer (some ⟨b, 0, none⟩)))
                have hS : Sp wz6 b (fun _ => (most (n + 10))) [w.heap.size + 1 + 1] CL nph wu := hp.S
                have hk := hK.call (.int .i32 (kW (536000000)).v)
                clear hp hK
                go_simp
                refine (w_const _ _ _ (by first | assumption | decide)).mono ?_
                rintro e w7 ⟨rfl, hcX⟩
                exact hk _ (hS.call hcX) (Reg.keep_callp _ rfl hS hcX)
              · intro a wu γ nph K hp hK
                obtain ⟨e117a, e117b⟩ := hp.dep_ 117 2 (.agg #[.iface 74 (.pointer (some ⟨b, 0, none⟩))])
                obtain ⟨e120a, e120b⟩ := hp.dep_ 120 5 (.int .i32 (absW (anglesS q0 q1 q2 q3)).v)
                obtain ⟨e123a, e123b⟩ := hp.dep_ 123 8 (.int .i32 (kW (536000000)).v)
                have hS : Sp wz6 b (fun _ => (most (n + 10))) [w.heap.size + 1 + 1] CL nph wu := hp.S
                have hk := hK.call (.int .i32 (sltW (absW (anglesS q0 q1 q2 q3)) (kW (536000000))).v)
                clear hp hK
                go_simp
                refine (w_slt _ _ _ _).mono ?_
                rintro e w7 ⟨rfl, hcX⟩
                exact hk _ (hS.call hcX) (Reg.keep_callp _ rfl hS hcX)
              · intro a wu γ nph K hp hK
                obtain ⟨e2a, e2b⟩ := hp.old_ 2 (.pointer (some ⟨w.heap.size, 0, none⟩))
                have hk := hK.pure (.pointer (some ⟨w.heap.size, 0, none⟩)) hp.S
                clear hp hK
                go_simp
                exact hk
              · intro a wu γ nph K hp hK
                obtain ⟨e125a, e125b⟩ := hp.dep_ 125 10 (.pointer (some ⟨w.heap.size, 0, none⟩))
                have hS : Sp wz6 b (fun _ => (most (n + 10))) [w.heap.size + 1 + 1] CL nph wu := hp.S
                have c0 := hS.at_ 0 ⟨w.heap.size, 0, none⟩ (.iface 74 (.pointer (some ⟨b, 0, none⟩))) (by rw [hCL]; rfl)
                have hk := hK.pure (.iface 74 (.pointer (some ⟨b, 0, none⟩))) hp.S
                clear hp hK hS
                go_simp
                exact hk
              · intro a wu γ nph K hp hK
                obtain ⟨e126a, e126b⟩ := hp.dep_ 126 11 (.iface 74 (.pointer (some ⟨b, 0, none⟩)))
                have hS : Sp wz6 b (fun _ => (most (n + 10))) [w.heap.size + 1 + 1] CL nph wu := hp.S
                have hk := hK.call (.int .i32 (kW (1)).v)
                clear hp hK
                go_simp
                refine (w_const _ _ _ (by first | assumption | decide)).mono ?_
                rintro e w7 ⟨rfl, hcX⟩
                exact hk _ (hS.call hcX) (Reg.keep_callp _ rfl hS hcX)
              · intro a wu γ nph K hp hK
                obtain ⟨e116a, e116b⟩ := hp.dep_ 116 1 (.agg #[.iface 74 (.pointer (some ⟨b, 0, none⟩))])
                obtain ⟨e124a, e124b⟩ := hp.dep_ 124 9 (.int .i32 (sltW (absW (anglesS q0 q1 q2 q3)) (kW (536000000))).v)
                obtain ⟨e127a, e127b⟩ := hp.dep_ 127 12 (.int .i32 (kW (1)).v)
                have hS : Sp wz6 b (fun _ => (most (n + 10))) [w.heap.size + 1 + 1] CL nph wu := hp.S
                have hk := hK.call (.int .i32 (subW (sltW (absW (anglesS q0 q1 q2 q3)) (kW (536000000))) (kW (1))).v)
                clear hp hK
                go_simp
                refine (w_sub _ _ _ _).mono ?_
                rintro e w7 ⟨rfl, hcX⟩
                exact hk _ (hS.call hcX) (Reg.keep_callp _ rfl hS hcX)
              · intro a wu γ nph K hp hK
                obtain ⟨e4a, e4b⟩ := hp.old_ 4 (.pointer (some ⟨w.heap.size + 1 + 1, 0, none⟩))
                obtain ⟨e115a, e115b⟩ := hp.dep_ 115 0 (.agg #[.int .i32 ((anglesW q0 q1 q2 q3).a).v, .int .i32 ((anglesW q0 q1 q2 q3).b).v, .int .i32 ((anglesW q0 q1 q2 q3).c).v])
                have hb := (hp.blk_ 16 (T := 22) (c := [.int .i32 0, .int .i32 0, .int .i32 0])).1
                have hk := hK.put 16 22 [.int .i32 0, .int .i32 0, .int .i32 0] [.int .i32 ((anglesW q0 q1 q2 q3).a).v, .int .i32 ((anglesW q0 q1 q2 q3).b).v, .int .i32 ((anglesW q0 q1 q2 q3).c).v]
                have hO : γ 16 = w.heap.size + 1 + 1 := hp.old 16 (Nat.le_trans (Nat.le_of_eq (by kernel_rfl : _ = 16)) (by decide : 16 ≤ 16))
                rw [hO] at hb hk
                have z0 := hb.cell' (i := 0) rfl
                have f0 := hb.frozen 0
                have z1 := hb.cell' (i := 1) rfl
                have f1 := hb.frozen 1
                have z2 := hb.cell' (i := 2) rfl
                have f2 := hb.frozen 2
                clear hp hK
                clear hO
                go_simp
                exact hk _ (((hb.set_ 0 _).set_ 1 _).set_ 2 _) ((((Chg.refl wu _).setCell _ _ (.inl (by simp))).setCell _ _ (.inl (by simp))).setCell _ _ (.inl (by simp))) (by simp)
              · intro a wu γ nph K hp hK
                obtain ⟨e128a, e128b⟩ := hp.dep_ 128 13 (.int .i32 (subW (sltW (absW (anglesS q0 q1 q2 q3)) (kW (536000000))) (kW (1))).v)
                have hk := hK.pure (.int .i32 (subW (sltW (absW (anglesS q0 q1 q2 q3)) (kW (536000000))) (kW (1))).v) hp.S
                clear hp hK
                go_simp
                exact hk
            · intro a wu γ nph K hp hK
              obtain ⟨e2a, e2b⟩ := hp.old_ 2 (.pointer (some ⟨w.heap.size, 0, none⟩))
              have hS : Sp wz5 b (fun k => most (n + (match k with | 0 => 0 | 1 => 3 | 2 => 3 | 3 => 4 | 4 => 7 | _ => 10))) [w.heap.size + 1 + 1] CL nph wu := hp.S
              have c0 := hS.at_ 0 ⟨w.heap.size, 0, none⟩ (.iface 74 (.pointer (some ⟨b, 0, none⟩))) (by rw [hCL]; rfl)
              have hk := hK.pure (.agg #[.iface 74 (.pointer (some ⟨b, 0, none⟩))]) hp.S
              clear hp hK hS
              go_simp
              exact hk
            · intro a wu γ nph K hp hK
              obtain ⟨e7a, e7b⟩ := hp.old_ 7 (.int .i32 (anglesY q0 q1 q2 q3).v)
              have hk := hK.pure (.int .i32 (anglesY q0 q1 q2 q3).v) hp.S
              clear hp hK
              go_simp
              exact hk
            · intro a wu γ nph K hp hK
              obtain ⟨e8a, e8b⟩ := hp.old_ 8 (.int .i32 (anglesX q0 q1 q2 q3).v)
              have hk := hK.pure (.int .i32 (anglesX q0 q1 q2 q3).v) hp.S
              clear hp hK
              go_simp
              exact hk
            · intro a wu γ nph K hp hK
              obtain ⟨e96a, e96b⟩ := hp.dep_ 96 0 (.agg #[.iface 74 (.pointer (some ⟨b, 0, none⟩))])
              obtain ⟨e97a, e97b⟩ := hp.dep_ 97 1 (.int .i32 (anglesY q0 q1 q2 q3).v)
              obtain ⟨e98a, e98b⟩ := hp.dep_ 98 2 (.int .i32 (anglesX q0 q1 q2 q3).v)
              have hS : Sp wz5 b (fun k => most (n + (match k with | 0 => 0 | 1 => 3 | 2 => 3 | 3 => 4 | 4 => 7 | _ => 10))) [w.heap.size + 1 + 1] CL nph wu := hp.S
              have hn : nph = 0 := hp.eff 0 (by kernel_rfl)
              have hk := hK.eff (.int .i32 (angleW (anglesY q0 q1 q2 q3) (anglesX q0 q1 q2 q3)).v)
              clear hp hK
              subst hn
              go_simp
              refine (wangle_calls b (anglesY q0 q1 q2 q3) (anglesX q0 q1 q2 q3) _ _ (by first | assumption | (simp; omega) | omega) hS.pl).mono ?_
              rintro e w7 ⟨rfl, hpR, htR⟩
              exact hk _ (hS.eff hap hpR htR) (Reg.keep_eff _ rfl htR)
            · intro a wu γ nph K hp hK
              obtain ⟨e2a, e2b⟩ := hp.old_ 2 (.pointer (some ⟨w.heap.size, 0, none⟩))
              have hS : Sp wz5 b (fun k => most (n + (match k with | 0 => 0 | 1 => 3 | 2 => 3 | 3 => 4 | 4 => 7 | _ => 10))) [w.heap.size + 1 + 1] CL nph wu := hp.S
              have c0 := hS.at_ 0 ⟨w.heap.size, 0, none⟩ (.iface 74 (.pointer (some ⟨b, 0, none⟩))) (by rw [hCL]; rfl)
              have hk := hK.pure (.agg #[.iface 74 (.pointer (some ⟨b, 0, none⟩))]) hp.S
              clear hp hK hS
              go_simp
              exact hk
            · intro a wu γ nph K hp hK
              obtain ⟨e9a, e9b⟩ := hp.old_ 9 (.int .i32 (anglesS q0 q1 q2 q3).v)
              have hk := hK.pure (.int .i32 (anglesS q0 q1 q2 q3).v) hp.S
              clear hp hK
              go_simp
              exact hk
            · intro a wu γ nph K hp hK
              obtain ⟨e2a, e2b⟩ := hp.old_ 2 (.pointer (some ⟨w.heap.size, 0, none⟩))
              have hS : Sp wz5 b (fun k => most (n + (match k with | 0 => 0 | 1 => 3 | 2 => 3 | 3 => 4 | 4 => 7 | _ => 10))) [w.heap.size + 1 + 1] CL nph wu := hp.S
              have c0 := hS.at_ 0 ⟨w.heap.size, 0, none⟩ (.iface 74 (.pointer (some ⟨b, 0, none⟩))) (by rw [hCL]; rfl)
              have hk := hK.pure (.agg #[.iface 74 (.pointer (some ⟨b, 0, none⟩))]) hp.S
              clear hp hK hS
              go_simp
              exact hk
            · intro a wu γ nph K hp hK
              obtain ⟨e2a, e2b⟩ := hp.old_ 2 (.pointer (some ⟨w.heap.size, 0, none⟩))
              have hS : Sp wz5 b (fun k => most (n + (match k with | 0 => 0 | 1 => 3 | 2 => 3 | 3 => 4 | 4 => 7 | _ => 10))) [w.heap.size + 1 + 1] CL nph wu := hp.S
              have c0 := hS.at_ 0 ⟨w.heap.size, 0, none⟩ (.iface 74 (.pointer (some ⟨b, 0, none⟩))) (by rw [hCL]; rfl)
              have hk := hK.pure (.agg #[.iface 74 (.pointer (some ⟨b, 0, none⟩))]) hp.S
              clear hp hK hS
              go_simp
              exact hk
            · intro a wu γ nph K hp hK
              obtain ⟨e8a, e8b⟩ := hp.old_ 8 (.int .i32 (anglesX q0 q1 q2 q3).v)
              have hk := hK.pure (.int .i32 (anglesX q0 q1 q2 q3).v) hp.S
              clear hp hK
              go_simp
              exact hk
            · intro a wu γ nph K hp hK
              obtain ⟨e7a, e7b⟩ := hp.old_ 7 (.int .i32 (anglesY q0 q1 q2 q3).v)
              have hk := hK.pure (.int .i32 (anglesY q0 q1 q2 q3).v) hp.S
              clear hp hK
              go_simp
              exact hk
            · intro a wu γ nph K hp hK
              obtain ⟨e104a, e104b⟩ := hp.dep_ 104 8 (.int .i32 (anglesX q0 q1 q2 q3).v)
              obtain ⟨e105a, e105b⟩ := hp.dep_ 105 9 (.int .i32 (anglesY q0 q1 q2 q3).v)
              have hk := hK.new 21 [.int .i32 (anglesX q0 q1 q2 q3).v, .int .i32 (anglesY q0 q1 q2 q3).v] (fun g => .slice (some ⟨g, 0, none⟩) 2 2)
              clear hp hK
              go_simp
              exact hk
            · intro a wu γ nph K hp hK
              obtain ⟨e103a, e103b⟩ := hp.dep_ 103 7 (.agg #[.iface 74 (.pointer (some ⟨b, 0, none⟩))])
              obtain ⟨e106a, e106b⟩ := hp.dep_ 106 10 (.slice (some ⟨γ 10, 0, none⟩) 2 2)
              have hS : Sp wz5 b (fun k => most (n + (match k with | 0 => 0 | 1 => 3 | 2 => 3 | 3 => 4 | 4 => 7 | _ => 10))) [w.heap.size + 1 + 1] CL nph wu := hp.S
              have nb10 : Blk wu (γ 10) 21 [.int .i32 (anglesX q0 q1 q2 q3).v, .int .i32 (anglesY q0 q1 q2 q3).v] := (hp.blk_ 10 (T := 21) (c := [.int .i32 (anglesX q0 q1 q2 q3).v, .int .i32 (anglesY q0 q1 q2 q3).v])).1
              have hn : nph = 1 := hp.eff 1 (by kernel_rfl)
              have hk := hK.eff (.int .i32 (normW (anglesX q0 q1 q2 q3) [anglesY q0 q1 q2 q3]).v)
              clear hp hK
              subst hn
              go_simp
              refine (wnorm_calls _ (anglesX q0 q1 q2 q3) [anglesY q0 q1 q2 q3] _ _ (Sl.blk' (show Blk wu (γ 10) 21 (wds [anglesX q0 q1 q2 q3, anglesY q0 q1 q2 q3]) from nb10) rfl (Nat.le_refl _)) (by simp) (by simp)).mono ?_
              rintro e w7 ⟨rfl, hcX⟩
              exact hk _ (hS.skip hcX (fun c t h => h)) (Reg.keep_callp _ rfl hS hcX)
            · intro a wu γ nph K hp hK
              obtain ⟨e102a, e102b⟩ := hp.dep_ 102 6 (.agg #[.iface 74 (.pointer (some ⟨b, 0, none⟩))])
              obtain ⟨e107a, e107b⟩ := hp.dep_ 107 11 (.int .i32 (normW (anglesX q0 q1 q2 q3) [anglesY q0 q1 q2 q3]).v)
              have hS : Sp wz5 b (fun k => most (n + (match k with | 0 => 0 | 1 => 3 | 2 => 3 | 3 => 4 | 4 => 7 | _ => 10))) [w.heap.size + 1 + 1] CL nph wu := hp.S
              have hn : nph = 2 := hp.eff 2 (by kernel_rfl)
              have hk := hK.eff (.int .i32 (sqrtW (normW (anglesX q0 q1 q2 q3) [anglesY q0 q1 q2 q3])).v)
              clear hp hK
              subst hn
              go_simp
              refine (wsqrt_calls b (normW (anglesX q0 q1 q2 q3) [anglesY q0 q1 q2 q3]) _ _ (by first | assumption | (simp; omega) | omega) hS.pl).mono ?_
              rintro e w7 ⟨rfl, hpR, htR⟩
              exact hk _ (hS.eff hap hpR htR) (Reg.keep_eff _ rfl htR)
            · intro a wu γ nph K hp hK
              obtain ⟨e100a, e100b⟩ := hp.dep_ 100 4 (.agg #[.iface 74 (.pointer (some ⟨b, 0, none⟩))])
              obtain ⟨e101a, e101b⟩ := hp.dep_ 101 5 (.int .i32 (anglesS q0 q1 q2 q3).v)
              obtain ⟨e108a, e108b⟩ := hp.dep_ 108 12 (.int .i32 (sqrtW (normW (anglesX q0 q1 q2 q3) [anglesY q0 q1 q2 q3])).v)
              have hS : Sp wz5 b (fun k => most (n + (match k with | 0 => 0 | 1 => 3 | 2 => 3 | 3 => 4 | 4 => 7 | _ => 10))) [w.heap.size + 1 + 1] CL nph wu := hp.S
              have hn : nph = 3 := hp.eff 3 (by kernel_rfl)
              have hk := hK.eff (.int .i32 (angleW (anglesS q0 q1 q2 q3) (sqrtW (normW (anglesX q0 q1 q2 q3) [anglesY q0 q1 q2 q3]))).v)
              clear hp hK
              subst hn
              go_simp
              refine (wangle_calls b (anglesS q0 q1 q2 q3) (sqrtW (normW (anglesX q0 q1 q2 q3) [anglesY q0 q1 q2 q3])) _ _ (by first | assumption | (simp; omega) | omega) hS.pl).mono ?_
              rintro e w7 ⟨rfl, hpR, htR⟩
              exact hk _ (hS.eff hap hpR htR) (Reg.keep_eff _ rfl htR)
            · intro a wu γ nph K hp hK
              obtain ⟨e2a, e2b⟩ := hp.old_ 2 (.pointer (some ⟨w.heap.size, 0, none⟩))
              have hS : Sp wz5 b (fun k => most (n + (match k with | 0 => 0 | 1 => 3 | 2 => 3 | 3 => 4 | 4 => 7 | _ => 10))) [w.heap.size + 1 + 1] CL nph wu := hp.S
              have c0 := hS.at_ 0 ⟨w.heap.size, 0, none⟩ (.iface 74 (.pointer (some ⟨b, 0, none⟩))) (by rw [hCL]; rfl)
              have hk := hK.pure (.agg #[.iface 74 (.pointer (some ⟨b, 0, none⟩))]) hp.S
              clear hp hK hS
              go_simp
              exact hk
            · intro a wu γ nph K hp hK
              obtain ⟨e10a, e10b⟩ := hp.old_ 10 (.int .i32 (anglesU q0 q1 q2 q3).v)
              have hk := hK.pure (.int .i32 (anglesU q0 q1 q2 q3).v) hp.S
              clear hp hK
              go_simp
              exact hk
            · intro a wu γ nph K hp hK
              obtain ⟨e11a, e11b⟩ := hp.old_ 11 (.int .i32 (anglesV q0 q1 q2 q3).v)
              have hk := hK.pure (.int .i32 (anglesV q0 q1 q2 q3).v) hp.S
              clear hp hK
              go_simp
              exact hk
            · intro a wu γ nph K hp hK
              obtain ⟨e110a, e110b⟩ := hp.dep_ 110 14 (.agg #[.iface 74 (.pointer (some ⟨b, 0, none⟩))])
              obtain ⟨e111a, e111b⟩ := hp.dep_ 111 15 (.int .i32 (anglesU q0 q1 q2 q3).v)
              obtain ⟨e112a, e112b⟩ := hp.dep_ 112 16 (.int .i32 (anglesV q0 q1 q2 q3).v)
              have hS : Sp wz5 b (fun k => most (n + (match k with | 0 => 0 | 1 => 3 | 2 => 3 | 3 => 4 | 4 => 7 | _ => 10))) [w.heap.size + 1 + 1] CL nph wu := hp.S
              have hn : nph = 4 := hp.eff 4 (by kernel_rfl)
              have hk := hK.eff (.int .i32 (angleW (anglesU q0 q1 q2 q3) (anglesV q0 q1 q2 q3)).v)
              clear hp hK
              subst hn
              go_simp
              refine (wangle_calls b (anglesU q0 q1 q2 q3) (anglesV q0 q1 q2 q3) _ _ (by first | assumption | (simp; omega) | omega) hS.pl).mono ?_
              rintro e w7 ⟨rfl, hpR, htR⟩
              exact hk _ (hS.eff hap hpR htR) (Reg.keep_eff _ rfl htR)
            · intro a wu γ nph K hp hK
              obtain ⟨e99a, e99b⟩ := hp.dep_ 99 3 (.int .i32 (angleW (anglesY q0 q1 q2 q3) (anglesX q0 q1 q2 q3)).v)
              obtain ⟨e109a, e109b⟩ := hp.dep_ 109 13 (.int .i32 (angleW (anglesS q0 q1 q2 q3) (sqrtW (normW (anglesX q0 q1 q2 q3) [anglesY q0 q1 q2 q3]))).v)
              obtain ⟨e113a, e113b⟩ := hp.dep_ 113 17 (.int .i32 (angleW (anglesU q0 q1 q2 q3) (anglesV q0 q1 q2 q3)).v)
              have hk := hK.pure (.agg #[.int .i32 (angleW (anglesY q0 q1 q2 q3) (anglesX q0 q1 q2 q3)).v, .int .i32 (angleW (anglesS q0 q1 q2 q3) (sqrtW (normW (anglesX q0 q1 q2 q3) [anglesY q0 q1 q2 q3]))).v, .int .i32 (angleW (anglesU q0 q1 q2 q3) (anglesV q0 q1 q2 q3)).v]) hp.S
              clear hp hK
              go_simp
              exact hk
            · intro a wu γ nph K hp hK
              have hk := hK.new 22 [.int .i32 0, .int .i32 0, .int .i32 0] (fun g => .pointer (some ⟨g, 0, none⟩))
              clear hp hK
              go_simp
              exact hk
            · intro a wu γ nph K hp hK
              obtain ⟨e12a, e12b⟩ := hp.dep_ 12 19 (.pointer (some ⟨γ 19, 0, none⟩))
              obtain ⟨e114a, e114b⟩ := hp.dep_ 114 18 (.agg #[.int .i32 (angleW (anglesY q0 q1 q2 q3) (anglesX q0 q1 q2 q3)).v, .int .i32 (angleW (anglesS q0 q1 q2 q3) (sqrtW (normW (anglesX q0 q1 q2 q3) [anglesY q0 q1 q2 q3]))).v, .int .i32 (angleW (anglesU q0 q1 q2 q3) (anglesV q0 q1 q2 q3)).v])
              have hb := (hp.blk_ 19 (T := 22) (c := [.int .i32 0, .int .i32 0, .int .i32 0])).1
              have hk := hK.put 19 22 [.int .i32 0, .int .i32 0, .int .i32 0] [.int .i32 (angleW (anglesY q0 q1 q2 q3) (anglesX q0 q1 q2 q3)).v, .int .i32 (angleW (anglesS q0 q1 q2 q3) (sqrtW (normW (anglesX q0 q1 q2 q3) [anglesY q0 q1 q2 q3]))).v, .int .i32 (angleW (anglesU q0 q1 q2 q3) (anglesV q0 q1 q2 q3)).v]
              have z0 := hb.cell' (i := 0) rfl
              have f0 := hb.frozen 0
              have z1 := hb.cell' (i := 1) rfl
              have f1 := hb.frozen 1
              have z2 := hb.cell' (i := 2) rfl
              have f2 := hb.frozen 2
              clear hp hK
              go_simp
              exact hk _ (((hb.set_ 0 _).set_ 1 _).set_ 2 _) ((((Chg.refl wu _).setCell _ _ (.inl (by simp))).setCell _ _ (.inl (by simp))).setCell _ _ (.inl (by simp))) (by simp)
          · intro a wu γ nph K hp hK
            obtain ⟨e2a, e2b⟩ := hp.old_ 2 (.pointer (some ⟨w.heap.size, 0, none⟩))
            have hS : Sp wz4 b (fun _ => (most n)) [w.heap.size + 1 + 1] CL nph wu := hp.S
            have c0 := hS.at_ 0 ⟨w.heap.size, 0, none⟩ (.iface 74 (.pointer (some ⟨b, 0, none⟩))) (by rw [hCL]; rfl)
            have hk := hK.pure (.agg #[.iface 74 (.pointer (some ⟨b, 0, none⟩))]) hp.S
            clear hp hK hS
            go_simp
            exact hk
          · intro a wu γ nph K hp hK
            obtain ⟨e2a, e2b⟩ := hp.old_ 2 (.pointer (some ⟨w.heap.size, 0, none⟩))
            have hk := hK.pure (.pointer (some ⟨w.heap.size, 0, none⟩)) hp.S
            clear hp hK
            go_simp
            exact hk
          · intro a wu γ nph K hp hK
            obtain ⟨e79a, e79b⟩ := hp.dep_ 79 1 (.pointer (some ⟨w.heap.size, 0, none⟩))
            have hS : Sp wz4 b (fun _ => (most n)) [w.heap.size + 1 + 1] CL nph wu := hp.S
            have c0 := hS.at_ 0 ⟨w.heap.size, 0, none⟩ (.iface 74 (.pointer (some ⟨b, 0, none⟩))) (by rw [hCL]; rfl)
            have hk := hK.pure (.iface 74 (.pointer (some ⟨b, 0, none⟩))) hp.S
            clear hp hK hS
            go_simp
            exact hk
          · intro a wu γ nph K hp hK
            obtain ⟨e80a, e80b⟩ := hp.dep_ 80 2 (.iface 74 (.pointer (some ⟨b, 0, none⟩)))
            have hS : Sp wz4 b (fun _ => (most n)) [w.heap.size + 1 + 1] CL nph wu := hp.S
            have hk := hK.call (.int .i32 (kW (536870912)).v)
            clear hp hK
            go_simp
            refine (w_const _ _ _ (by first | assumption | decide)).mono ?_
            rintro e w7 ⟨rfl, hcX⟩
            exact hk _ (hS.call hcX) (Reg.keep_callp _ rfl hS hcX)
          · intro a wu γ nph K hp hK
            obtain ⟨e6a, e6b⟩ := hp.old_ 6 (.func (.func 92) #[.agg #[.iface 74 (.pointer (some ⟨b, 0, none⟩))]] #[])
            have hk := hK.pure (.func (.func 92) #[.agg #[.iface 74 (.pointer (some ⟨b, 0, none⟩))]] #[]) hp.S
            clear hp hK
            go_simp
            exact hk
          · intro a wu γ nph K hp hK
            obtain ⟨e3a, e3b⟩ := hp.old_ 3 (.pointer (some ⟨w.heap.size + 1, 0, none⟩))
            have hk := hK.pure (.pointer (some ⟨w.heap.size + 1, 2, none⟩)) hp.S
            clear hp hK
            go_simp
            exact hk
          · intro a wu γ nph K hp hK
            obtain ⟨e83a, e83b⟩ := hp.dep_ 83 5 (.pointer (some ⟨w.heap.size + 1, 2, none⟩))
            have hS : Sp wz4 b (fun _ => (most n)) [w.heap.size + 1 + 1] CL nph wu := hp.S
            have c3 := hS.at_ 3 ⟨w.heap.size + 1, 2, none⟩ (.int .i32 (q2).v) (by rw [hCL]; rfl)
            have hk := hK.pure (.int .i32 (q2).v) hp.S
            clear hp hK hS
            go_simp
            exact hk
          · intro a wu γ nph K hp hK
            obtain ⟨e3a, e3b⟩ := hp.old_ 3 (.pointer (some ⟨w.heap.size + 1, 0, none⟩))
            have hk := hK.pure (.pointer (some ⟨w.heap.size + 1, 2, none⟩)) hp.S
            clear hp hK
            go_simp
            exact hk
          · intro a wu γ nph K hp hK
            obtain ⟨e85a, e85b⟩ := hp.dep_ 85 7 (.pointer (some ⟨w.heap.size + 1, 2, none⟩))
            have hS : Sp wz4 b (fun _ => (most n)) [w.heap.size + 1 + 1] CL nph wu := hp.S
            have c3 := hS.at_ 3 ⟨w.heap.size + 1, 2, none⟩ (.int .i32 (q2).v) (by rw [hCL]; rfl)
            have hk := hK.pure (.int .i32 (q2).v) hp.S
            clear hp hK hS
            go_simp
            exact hk
          · intro a wu γ nph K hp hK
            obtain ⟨e82a, e82b⟩ := hp.dep_ 82 4 (.func (.func 92) #[.agg #[.iface 74 (.pointer (some ⟨b, 0, none⟩))]] #[])
            obtain ⟨e84a, e84b⟩ := hp.dep_ 84 6 (.int .i32 (q2).v)
            obtain ⟨e86a, e86b⟩ := hp.dep_ 86 8 (.int .i32 (q2).v)
            have hS : Sp wz4 b (fun _ => (most n)) [w.heap.size + 1 + 1] CL nph wu := hp.S
            have hk := hK.call (.int .i32 (mulqW (q2) (q2)).v)
            clear hp hK
            go_simp
            refine (w_mulq _ _ _ _).mono ?_
            rintro e w7 ⟨rfl, hcX⟩
            exact hk _ (hS.call hcX) (Reg.keep_callp _ rfl hS hcX)
          · intro a wu γ nph K hp hK
            obtain ⟨e6a, e6b⟩ := hp.old_ 6 (.func (.func 92) #[.agg #[.iface 74 (.pointer (some ⟨b, 0, none⟩))]] #[])
            have hk := hK.pure (.func (.func 92) #[.agg #[.iface 74 (.pointer (some ⟨b, 0, none⟩))]] #[]) hp.S
            clear hp hK
            go_simp
            exact hk
          · intro a wu γ nph K hp hK
            obtain ⟨e3a, e3b⟩ := hp.old_ 3 (.pointer (some ⟨w.heap.size + 1, 0, none⟩))
            have hk := hK.pure (.pointer (some ⟨w.heap.size + 1, 3, none⟩)) hp.S
            clear hp hK
            go_simp
            exact hk
          · intro a wu γ nph K hp hK
            obtain ⟨e89a, e89b⟩ := hp.dep_ 89 11 (.pointer (some ⟨w.heap.size + 1, 3, none⟩))
            have hS : Sp wz4 b (fun _ => (most n)) [w.heap.size + 1 + 1] CL nph wu := hp.S
            have c4 := hS.at_ 4 ⟨w.heap.size + 1, 3, none⟩ (.int .i32 (q3).v) (by rw [hCL]; rfl)
            have hk := hK.pure (.int .i32 (q3).v) hp.S
            clear hp hK hS
            go_simp
            exact hk
          · intro a wu γ nph K hp hK
            obtain ⟨e3a, e3b⟩ := hp.old_ 3 (.pointer (some ⟨w.heap.size + 1, 0, none⟩))
            have hk := hK.pure (.pointer (some ⟨w.heap.size + 1, 3, none⟩)) hp.S
            clear hp hK
            go_simp
            exact hk
          · intro a wu γ nph K hp hK
            obtain ⟨e91a, e91b⟩ := hp.dep_ 91 13 (.pointer (some ⟨w.heap.size + 1, 3, none⟩))
            have hS : Sp wz4 b (fun _ => (most n)) [w.heap.size + 1 + 1] CL nph wu := hp.S
            have c4 := hS.at_ 4 ⟨w.heap.size + 1, 3, none⟩ (.int .i32 (q3).v) (by rw [hCL]; rfl)
            have hk := hK.pure (.int .i32 (q3).v) hp.S
            clear hp hK hS
            go_simp
            exact hk
          · intro a wu γ nph K hp hK
            obtain ⟨e88a, e88b⟩ := hp.dep_ 88 10 (.func (.func 92) #[.agg #[.iface 74 (.pointer (some ⟨b, 0, none⟩))]] #[])
            obtain ⟨e90a, e90b⟩ := hp.dep_ 90 12 (.int .i32 (q3).v)
            obtain ⟨e92a, e92b⟩ := hp.dep_ 92 14 (.int .i32 (q3).v)
            have hS : Sp wz4 b (fun _ => (most n)) [w.heap.size + 1 + 1] CL nph wu := hp.S
            have hk := hK.call (.int .i32 (mulqW (q3) (q3)).v)
            clear hp hK
            go_simp
            refine (w_mulq _ _ _ _).mono ?_
            rintro e w7 ⟨rfl, hcX⟩
            exact hk _ (hS.call hcX) (Reg.keep_callp _ rfl hS hcX)
          · intro a wu γ nph K hp hK
            obtain ⟨e87a, e87b⟩ := hp.dep_ 87 9 (.int .i32 (mulqW (q2) (q2)).v)
            obtain ⟨e93a, e93b⟩ := hp.dep_ 93 15 (.int .i32 (mulqW (q3) (q3)).v)
            have hk := hK.new 21 [.int .i32 (mulqW (q2) (q2)).v, .int .i32 (mulqW (q3) (q3)).v] (fun g => .slice (some ⟨g, 0, none⟩) 2 2)
            clear hp hK
            go_simp
            exact hk
          · intro a wu γ nph K hp hK
            obtain ⟨e78a, e78b⟩ := hp.dep_ 78 0 (.agg #[.iface 74 (.pointer (some ⟨b, 0, none⟩))])
            obtain ⟨e81a, e81b⟩ := hp.dep_ 81 3 (.int .i32 (kW (536870912)).v)
            obtain ⟨e94a, e94b⟩ := hp.dep_ 94 16 (.slice (some ⟨γ 16, 0, none⟩) 2 2)
            have hS : Sp wz4 b (fun _ => (most n)) [w.heap.size + 1 + 1] CL nph wu := hp.S
            have nb16 : Blk wu (γ 16) 21 [.int .i32 (mulqW (q2) (q2)).v, .int .i32 (mulqW (q3) (q3)).v] := (hp.blk_ 16 (T := 21) (c := [.int .i32 (mulqW (q2) (q2)).v, .int .i32 (mulqW (q3) (q3)).v])).1
            have hk := hK.call (.int .i32 (lessW (kW (536870912)) [mulqW (q2) (q2), mulqW (q3) (q3)]).v)
            clear hp hK
            go_simp
            refine (wless_calls _ _ [mulqW (q2) (q2), mulqW (q3) (q3)] _ _ (Sl.blk' (show Blk wu (γ 16) 21 (wds [mulqW (q2) (q2), mulqW (q3) (q3)]) from nb16) rfl (Nat.le_refl _)) (by simp)).mono ?_
            rintro e w7 ⟨rfl, hcX⟩
            exact hk _ (hS.call hcX) (Reg.keep_callp _ rfl hS hcX)
          · intro a wu γ nph K hp hK
            obtain ⟨e95a, e95b⟩ := hp.dep_ 95 17 (.int .i32 (lessW (kW (536870912)) [mulqW (q2) (q2), mulqW (q3) (q3)]).v)
            have hk := hK.pure (.int .i32 (lessW (kW (536870912)) [mulqW (q2) (q2), mulqW (q3) (q3)]).v) hp.S
            clear hp hK
            go_simp
            exact hk
        · intro a wu γ nph K hp hK
          obtain ⟨e2a, e2b⟩ := hp.old_ 2 (.pointer (some ⟨w.heap.size, 0, none⟩))
          have hS : Sp wz3 b (fun _ => (most n)) [w.heap.size + 1 + 1] CL nph wu := hp.S
          have c0 := hS.at_ 0 ⟨w.heap.size, 0, none⟩ (.iface 74 (.pointer (some ⟨b, 0, none⟩))) (by rw [hCL]; rfl)
          have hk := hK.pure (.agg #[.iface 74 (.pointer (some ⟨b, 0, none⟩))]) hp.S
          clear hp hK hS
          go_simp
          exact hk
        · intro a wu γ nph K hp hK
          obtain ⟨e6a, e6b⟩ := hp.old_ 6 (.func (.func 92) #[.agg #[.iface 74 (.pointer (some ⟨b, 0, none⟩))]] #[])
          have hk := hK.pure (.func (.func 92) #[.agg #[.iface 74 (.pointer (some ⟨b, 0, none⟩))]] #[]) hp.S
          clear hp hK
          go_simp
          exact hk
        · intro a wu γ nph K hp hK
          obtain ⟨e3a, e3b⟩ := hp.old_ 3 (.pointer (some ⟨w.heap.size + 1, 0, none⟩))
          have hk := hK.pure (.pointer (some ⟨w.heap.size + 1, 0, none⟩)) hp.S
          clear hp hK
          go_simp
          exact hk
        · intro a wu γ nph K hp hK
          obtain ⟨e65a, e65b⟩ := hp.dep_ 65 2 (.pointer (some ⟨w.heap.size + 1, 0, none⟩))
          have hS : Sp wz3 b (fun _ => (most n)) [w.heap.size + 1 + 1] CL nph wu := hp.S
          have c1 := hS.at_ 1 ⟨w.heap.size + 1, 0, none⟩ (.int .i32 (q0).v) (by rw [hCL]; rfl)
          have hk := hK.pure (.int .i32 (q0).v) hp.S
          clear hp hK hS
          go_simp
          exact hk
        · intro a wu γ nph K hp hK
          obtain ⟨e3a, e3b⟩ := hp.old_ 3 (.pointer (some ⟨w.heap.size + 1, 0, none⟩))
          have hk := hK.pure (.pointer (some ⟨w.heap.size + 1, 3, none⟩)) hp.S
          clear hp hK
          go_simp
          exact hk
        · intro a wu γ nph K hp hK
          obtain ⟨e67a, e67b⟩ := hp.dep_ 67 4 (.pointer (some ⟨w.heap.size + 1, 3, none⟩))
          have hS : Sp wz3 b (fun _ => (most n)) [w.heap.size + 1 + 1] CL nph wu := hp.S
          have c4 := hS.at_ 4 ⟨w.heap.size + 1, 3, none⟩ (.int .i32 (q3).v) (by rw [hCL]; rfl)
          have hk := hK.pure (.int .i32 (q3).v) hp.S
          clear hp hK hS
          go_simp
          exact hk
        · intro a wu γ nph K hp hK
          obtain ⟨e64a, e64b⟩ := hp.dep_ 64 1 (.func (.func 92) #[.agg #[.iface 74 (.pointer (some ⟨b, 0, none⟩))]] #[])
          obtain ⟨e66a, e66b⟩ := hp.dep_ 66 3 (.int .i32 (q0).v)
          obtain ⟨e68a, e68b⟩ := hp.dep_ 68 5 (.int .i32 (q3).v)
          have hS : Sp wz3 b (fun _ => (most n)) [w.heap.size + 1 + 1] CL nph wu := hp.S
          have hk := hK.call (.int .i32 (mulqW (q0) (q3)).v)
          clear hp hK
          go_simp
          refine (w_mulq _ _ _ _).mono ?_
          rintro e w7 ⟨rfl, hcX⟩
          exact hk _ (hS.call hcX) (Reg.keep_callp _ rfl hS hcX)
        · intro a wu γ nph K hp hK
          obtain ⟨e6a, e6b⟩ := hp.old_ 6 (.func (.func 92) #[.agg #[.iface 74 (.pointer (some ⟨b, 0, none⟩))]] #[])
          have hk := hK.pure (.func (.func 92) #[.agg #[.iface 74 (.pointer (some ⟨b, 0, none⟩))]] #[]) hp.S
          clear hp hK
          go_simp
          exact hk
        · intro a wu γ nph K hp hK
          obtain ⟨e3a, e3b⟩ := hp.old_ 3 (.pointer (some ⟨w.heap.size + 1, 0, none⟩))
          have hk := hK.pure (.pointer (some ⟨w.heap.size + 1, 1, none⟩)) hp.S
          clear hp hK
          go_simp
          exact hk
        · intro a wu γ nph K hp hK
          obtain ⟨e71a, e71b⟩ := hp.dep_ 71 8 (.pointer (some ⟨w.heap.size + 1, 1, none⟩))
          have hS : Sp wz3 b (fun _ => (most n)) [w.heap.size + 1 + 1] CL nph wu := hp.S
          have c2 := hS.at_ 2 ⟨w.heap.size + 1, 1, none⟩ (.int .i32 (q1).v) (by rw [hCL]; rfl)
          have hk := hK.pure (.int .i32 (q1).v) hp.S
          clear hp hK hS
          go_simp
          exact hk
        · intro a wu γ nph K hp hK
          obtain ⟨e3a, e3b⟩ := hp.old_ 3 (.pointer (some ⟨w.heap.size + 1, 0, none⟩))
          have hk := hK.pure (.pointer (some ⟨w.heap.size + 1, 2, none⟩)) hp.S
          clear hp hK
          go_simp
          exact hk
        · intro a wu γ nph K hp hK
          obtain ⟨e73a, e73b⟩ := hp.dep_ 73 10 (.pointer (some ⟨w.heap.size + 1, 2, none⟩))
          have hS : Sp wz3 b (fun _ => (most n)) [w.heap.size + 1 + 1] CL nph wu := hp.S
          have c3 := hS.at_ 3 ⟨w.heap.size + 1, 2, none⟩ (.int .i32 (q2).v) (by rw [hCL]; rfl)
          have hk := hK.pure (.int .i32 (q2).v) hp.S
          clear hp hK hS
          go_simp
          exact hk
        · intro a wu γ nph K hp hK
          obtain ⟨e70a, e70b⟩ := hp.dep_ 70 7 (.func (.func 92) #[.agg #[.iface 74 (.pointer (some ⟨b, 0, none⟩))]] #[])
          obtain ⟨e72a, e72b⟩ := hp.dep_ 72 9 (.int .i32 (q1).v)
          obtain ⟨e74a, e74b⟩ := hp.dep_ 74 11 (.int .i32 (q2).v)
          have hS : Sp wz3 b (fun _ => (most n)) [w.heap.size + 1 + 1] CL nph wu := hp.S
          have hk := hK.call (.int .i32 (mulqW (q1) (q2)).v)
          clear hp hK
          go_simp
          refine (w_mulq _ _ _ _).mono ?_
          rintro e w7 ⟨rfl, hcX⟩
          exact hk _ (hS.call hcX) (Reg.keep_callp _ rfl hS hcX)
        · intro a wu γ nph K hp hK
          obtain ⟨e75a, e75b⟩ := hp.dep_ 75 12 (.int .i32 (mulqW (q1) (q2)).v)
          have hk := hK.new 21 [.int .i32 (mulqW (q1) (q2)).v] (fun g => .slice (some ⟨g, 0, none⟩) 1 1)
          clear hp hK
          go_simp
          exact hk
        · intro a wu γ nph K hp hK
          obtain ⟨e63a, e63b⟩ := hp.dep_ 63 0 (.agg #[.iface 74 (.pointer (some ⟨b, 0, none⟩))])
          obtain ⟨e69a, e69b⟩ := hp.dep_ 69 6 (.int .i32 (mulqW (q0) (q3)).v)
          obtain ⟨e76a, e76b⟩ := hp.dep_ 76 13 (.slice (some ⟨γ 13, 0, none⟩) 1 1)
          have hS : Sp wz3 b (fun _ => (most n)) [w.heap.size + 1 + 1] CL nph wu := hp.S
          have nb13 : Blk wu (γ 13) 21 [.int .i32 (mulqW (q1) (q2)).v] := (hp.blk_ 13 (T := 21) (c := [.int .i32 (mulqW (q1) (q2)).v])).1
          have hk := hK.call (.int .i32 (moreW (mulqW (q0) (q3)) [mulqW (q1) (q2)]).v)
          clear hp hK
          go_simp
          refine (wmore_calls _ _ [mulqW (q1) (q2)] _ _ (Sl.blk' (show Blk wu (γ 13) 21 (wds [mulqW (q1) (q2)]) from nb13) rfl (Nat.le_refl _)) (by simp)).mono ?_
          rintro e w7 ⟨rfl, hcX⟩
          exact hk _ (hS.call hcX) (Reg.keep_callp _ rfl hS hcX)
        · intro a wu γ nph K hp hK
          obtain ⟨e77a, e77b⟩ := hp.dep_ 77 14 (.int .i32 (moreW (mulqW (q0) (q3)) [mulqW (q1) (q2)]).v)
          have hk := hK.pure (.int .i32 (moreW (mulqW (q0) (q3)) [mulqW (q1) (q2)]).v) hp.S
          clear hp hK
          go_simp
          exact hk
      · intro a wu γ nph K hp hK
        obtain ⟨e2a, e2b⟩ := hp.old_ 2 (.pointer (some ⟨w.heap.size, 0, none⟩))
        have hS : Sp wz2 b (fun _ => (most n)) [w.heap.size + 1 + 1] CL nph wu := hp.S
        have c0 := hS.at_ 0 ⟨w.heap.size, 0, none⟩ (.iface 74 (.pointer (some ⟨b, 0, none⟩))) (by rw [hCL]; rfl)
        have hk := hK.pure (.agg #[.iface 74 (.pointer (some ⟨b, 0, none⟩))]) hp.S
        clear hp hK hS
        go_simp
        exact hk
      · intro a wu γ nph K hp hK
        obtain ⟨e6a, e6b⟩ := hp.old_ 6 (.func (.func 92) #[.agg #[.iface 74 (.pointer (some ⟨b, 0, none⟩))]] #[])
        have hk := hK.pure (.func (.func 92) #[.agg #[.iface 74 (.pointer (some ⟨b, 0, none⟩))]] #[]) hp.S
        clear hp hK
        go_simp
        exact hk
      · intro a wu γ nph K hp hK
        obtain ⟨e3a, e3b⟩ := hp.old_ 3 (.pointer (some ⟨w.heap.size + 1, 0, none⟩))
        have hk := hK.pure (.pointer (some ⟨w.heap.size + 1, 0, none⟩)) hp.S
        clear hp hK
        go_simp
        exact hk
      · intro a wu γ nph K hp hK
        obtain ⟨e50a, e50b⟩ := hp.dep_ 50 2 (.pointer (some ⟨w.heap.size + 1, 0, none⟩))
        have hS : Sp wz2 b (fun _ => (most n)) [w.heap.size + 1 + 1] CL nph wu := hp.S
        have c1 := hS.at_ 1 ⟨w.heap.size + 1, 0, none⟩ (.int .i32 (q0).v) (by rw [hCL]; rfl)
        have hk := hK.pure (.int .i32 (q0).v) hp.S
        clear hp hK hS
        go_simp
        exact hk
      · intro a wu γ nph K hp hK
        obtain ⟨e3a, e3b⟩ := hp.old_ 3 (.pointer (some ⟨w.heap.size + 1, 0, none⟩))
        have hk := hK.pure (.pointer (some ⟨w.heap.size + 1, 2, none⟩)) hp.S
        clear hp hK
        go_simp
        exact hk
      · intro a wu γ nph K hp hK
        obtain ⟨e52a, e52b⟩ := hp.dep_ 52 4 (.pointer (some ⟨w.heap.size + 1, 2, none⟩))
        have hS : Sp wz2 b (fun _ => (most n)) [w.heap.size + 1 + 1] CL nph wu := hp.S
        have c3 := hS.at_ 3 ⟨w.heap.size + 1, 2, none⟩ (.int .i32 (q2).v) (by rw [hCL]; rfl)
        have hk := hK.pure (.int .i32 (q2).v) hp.S
        clear hp hK hS
        go_simp
        exact hk
      · intro a wu γ nph K hp hK
        obtain ⟨e49a, e49b⟩ := hp.dep_ 49 1 (.func (.func 92) #[.agg #[.iface 74 (.pointer (some ⟨b, 0, none⟩))]] #[])
        obtain ⟨e51a, e51b⟩ := hp.dep_ 51 3 (.int .i32 (q0).v)
        obtain ⟨e53a, e53b⟩ := hp.dep_ 53 5 (.int .i32 (q2).v)
        have hS : Sp wz2 b (fun _ => (most n)) [w.heap.size + 1 + 1] CL nph wu := hp.S
        have hk := hK.call (.int .i32 (mulqW (q0) (q2)).v)
        clear hp hK
        go_simp
        refine (w_mulq _ _ _ _).mono ?_
        rintro e w7 ⟨rfl, hcX⟩
        exact hk _ (hS.call hcX) (Reg.keep_callp _ rfl hS hcX)
      · intro a wu γ nph K hp hK
        obtain ⟨e6a, e6b⟩ := hp.old_ 6 (.func (.func 92) #[.agg #[.iface 74 (.pointer (some ⟨b, 0, none⟩))]] #[])
        have hk := hK.pure (.func (.func 92) #[.agg #[.iface 74 (.pointer (some ⟨b, 0, none⟩))]] #[]) hp.S
        clear hp hK
        go_simp
        exact hk
      · intro a wu γ nph K hp hK
        obtain ⟨e3a, e3b⟩ := hp.old_ 3 (.pointer (some ⟨w.heap.size + 1, 0, none⟩))
        have hk := hK.pure (.pointer (some ⟨w.heap.size + 1, 3, none⟩)) hp.S
        clear hp hK
        go_simp
        exact hk
      · intro a wu γ nph K hp hK
        obtain ⟨e56a, e56b⟩ := hp.dep_ 56 8 (.pointer (some ⟨w.heap.size + 1, 3, none⟩))
        have hS : Sp wz2 b (fun _ => (most n)) [w.heap.size + 1 + 1] CL nph wu := hp.S
        have c4 := hS.at_ 4 ⟨w.heap.size + 1, 3, none⟩ (.int .i32 (q3).v) (by rw [hCL]; rfl)
        have hk := hK.pure (.int .i32 (q3).v) hp.S
        clear hp hK hS
        go_simp
        exact hk
      · intro a wu γ nph K hp hK
        obtain ⟨e3a, e3b⟩ := hp.old_ 3 (.pointer (some ⟨w.heap.size + 1, 0, none⟩))
        have hk := hK.pure (.pointer (some ⟨w.heap.size + 1, 1, none⟩)) hp.S
        clear hp hK
        go_simp
        exact hk
      · intro a wu γ nph K hp hK
        obtain ⟨e58a, e58b⟩ := hp.dep_ 58 10 (.pointer (some ⟨w.heap.size + 1, 1, none⟩))
        have hS : Sp wz2 b (fun _ => (most n)) [w.heap.size + 1 + 1] CL nph wu := hp.S
        have c2 := hS.at_ 2 ⟨w.heap.size + 1, 1, none⟩ (.int .i32 (q1).v) (by rw [hCL]; rfl)
        have hk := hK.pure (.int .i32 (q1).v) hp.S
        clear hp hK hS
        go_simp
        exact hk
      · intro a wu γ nph K hp hK
        obtain ⟨e55a, e55b⟩ := hp.dep_ 55 7 (.func (.func 92) #[.agg #[.iface 74 (.pointer (some ⟨b, 0, none⟩))]] #[])
        obtain ⟨e57a, e57b⟩ := hp.dep_ 57 9 (.int .i32 (q3).v)
        obtain ⟨e59a, e59b⟩ := hp.dep_ 59 11 (.int .i32 (q1).v)
        have hS : Sp wz2 b (fun _ => (most n)) [w.heap.size + 1 + 1] CL nph wu := hp.S
        have hk := hK.call (.int .i32 (mulqW (q3) (q1)).v)
        clear hp hK
        go_simp
        refine (w_mulq _ _ _ _).mono ?_
        rintro e w7 ⟨rfl, hcX⟩
        exact hk _ (hS.call hcX) (Reg.keep_callp _ rfl hS hcX)
      · intro a wu γ nph K hp hK
        obtain ⟨e60a, e60b⟩ := hp.dep_ 60 12 (.int .i32 (mulqW (q3) (q1)).v)
        have hk := hK.new 21 [.int .i32 (mulqW (q3) (q1)).v] (fun g => .slice (some ⟨g, 0, none⟩) 1 1)
        clear hp hK
        go_simp
        exact hk
      · intro a wu γ nph K hp hK
        obtain ⟨e48a, e48b⟩ := hp.dep_ 48 0 (.agg #[.iface 74 (.pointer (some ⟨b, 0, none⟩))])
        obtain ⟨e54a, e54b⟩ := hp.dep_ 54 6 (.int .i32 (mulqW (q0) (q2)).v)
        obtain ⟨e61a, e61b⟩ := hp.dep_ 61 13 (.slice (some ⟨γ 13, 0, none⟩) 1 1)
        have hS : Sp wz2 b (fun _ => (most n)) [w.heap.size + 1 + 1] CL nph wu := hp.S
        have nb13 : Blk wu (γ 13) 21 [.int .i32 (mulqW (q3) (q1)).v] := (hp.blk_ 13 (T := 21) (c := [.int .i32 (mulqW (q3) (q1)).v])).1
        have hk := hK.call (.int .i32 (lessW (mulqW (q0) (q2)) [mulqW (q3) (q1)]).v)
        clear hp hK
        go_simp
        refine (wless_calls _ _ [mulqW (q3) (q1)] _ _ (Sl.blk' (show Blk wu (γ 13) 21 (wds [mulqW (q3) (q1)]) from nb13) rfl (Nat.le_refl _)) (by simp)).mono ?_
        rintro e w7 ⟨rfl, hcX⟩
        exact hk _ (hS.call hcX) (Reg.keep_callp _ rfl hS hcX)
      · intro a wu γ nph K hp hK
        obtain ⟨e62a, e62b⟩ := hp.dep_ 62 14 (.int .i32 (lessW (mulqW (q0) (q2)) [mulqW (q3) (q1)]).v)
        have hk := hK.pure (.int .i32 (lessW (mulqW (q0) (q2)) [mulqW (q3) (q1)]).v) hp.S
        clear hp hK
        go_simp
        exact hk
    · intro a wu γ nph K hp hK
      obtain ⟨e2a, e2b⟩ := hp.old_ 2 (.pointer (some ⟨w.heap.size, 0, none⟩))
      have hS : Sp wz1 b (fun _ => (most n)) [w.heap.size + 1 + 1] CL nph wu := hp.S
      have c0 := hS.at_ 0 ⟨w.heap.size, 0, none⟩ (.iface 74 (.pointer (some ⟨b, 0, none⟩))) (by rw [hCL]; rfl)
      have hk := hK.pure (.agg #[.iface 74 (.pointer (some ⟨b, 0, none⟩))]) hp.S
      clear hp hK hS
      go_simp
      exact hk
    · intro a wu γ nph K hp hK
      obtain ⟨e2a, e2b⟩ := hp.old_ 2 (.pointer (some ⟨w.heap.size, 0, none⟩))
      have hk := hK.pure (.pointer (some ⟨w.heap.size, 0, none⟩)) hp.S
      clear hp hK
      go_simp
      exact hk
    · intro a wu γ nph K hp hK
      obtain ⟨e31a, e31b⟩ := hp.dep_ 31 1 (.pointer (some ⟨w.heap.size, 0, none⟩))
      have hS : Sp wz1 b (fun _ => (most n)) [w.heap.size + 1 + 1] CL nph wu := hp.S
      have c0 := hS.at_ 0 ⟨w.heap.size, 0, none⟩ (.iface 74 (.pointer (some ⟨b, 0, none⟩))) (by rw [hCL]; rfl)
      have hk := hK.pure (.iface 74 (.pointer (some ⟨b, 0, none⟩))) hp.S
      clear hp hK hS
      go_simp
      exact hk
    · intro a wu γ nph K hp hK
      obtain ⟨e32a, e32b⟩ := hp.dep_ 32 2 (.iface 74 (.pointer (some ⟨b, 0, none⟩)))
      have hS : Sp wz1 b (fun _ => (most n)) [w.heap.size + 1 + 1] CL nph wu := hp.S
      have hk := hK.call (.int .i32 (kW (536870912)).v)
      clear hp hK
      go_simp
      refine (w_const _ _ _ (by first | assumption | decide)).mono ?_
      rintro e w7 ⟨rfl, hcX⟩
      exact hk _ (hS.call hcX) (Reg.keep_callp _ rfl hS hcX)
    · intro a wu γ nph K hp hK
      obtain ⟨e6a, e6b⟩ := hp.old_ 6 (.func (.func 92) #[.agg #[.iface 74 (.pointer (some ⟨b, 0, none⟩))]] #[])
      have hk := hK.pure (.func (.func 92) #[.agg #[.iface 74 (.pointer (some ⟨b, 0, none⟩))]] #[]) hp.S
      clear hp hK
      go_simp
      exact hk
    · intro a wu γ nph K hp hK
      obtain ⟨e3a, e3b⟩ := hp.old_ 3 (.pointer (some ⟨w.heap.size + 1, 0, none⟩))
      have hk := hK.pure (.pointer (some ⟨w.heap.size + 1, 1, none⟩)) hp.S
      clear hp hK
      go_simp
      exact hk
    · intro a wu γ nph K hp hK
      obtain ⟨e35a, e35b⟩ := hp.dep_ 35 5 (.pointer (some ⟨w.heap.size + 1, 1, none⟩))
      have hS : Sp wz1 b (fun _ => (most n)) [w.heap.size + 1 + 1] CL nph wu := hp.S
      have c2 := hS.at_ 2 ⟨w.heap.size + 1, 1, none⟩ (.int .i32 (q1).v) (by rw [hCL]; rfl)
      have hk := hK.pure (.int .i32 (q1).v) hp.S
      clear hp hK hS
      go_simp
      exact hk
    · intro a wu γ nph K hp hK
      obtain ⟨e3a, e3b⟩ := hp.old_ 3 (.pointer (some ⟨w.heap.size + 1, 0, none⟩))
      have hk := hK.pure (.pointer (some ⟨w.heap.size + 1, 1, none⟩)) hp.S
      clear hp hK
      go_simp
      exact hk
    · intro a wu γ nph K hp hK
      obtain ⟨e37a, e37b⟩ := hp.dep_ 37 7 (.pointer (some ⟨w.heap.size + 1, 1, none⟩))
      have hS : Sp wz1 b (fun _ => (most n)) [w.heap.size + 1 + 1] CL nph wu := hp.S
      have c2 := hS.at_ 2 ⟨w.heap.size + 1, 1, none⟩ (.int .i32 (q1).v) (by rw [hCL]; rfl)
      have hk := hK.pure (.int .i32 (q1).v) hp.S
      clear hp hK hS
      go_simp
      exact hk
    · intro a wu γ nph K hp hK
      obtain ⟨e34a, e34b⟩ := hp.dep_ 34 4 (.func (.func 92) #[.agg #[.iface 74 (.pointer (some ⟨b, 0, none⟩))]] #[])
      obtain ⟨e36a, e36b⟩ := hp.dep_ 36 6 (.int .i32 (q1).v)
      obtain ⟨e38a, e38b⟩ := hp.dep_ 38 8 (.int .i32 (q1).v)
      have hS : Sp wz1 b (fun _ => (most n)) [w.heap.size + 1 + 1] CL nph wu := hp.S
      have hk := hK.call (.int .i32 (mulqW (q1) (q1)).v)
      clear hp hK
      go_simp
      refine (w_mulq _ _ _ _).mono ?_
      rintro e w7 ⟨rfl, hcX⟩
      exact hk _ (hS.call hcX) (Reg.keep_callp _ rfl hS hcX)
    · intro a wu γ nph K hp hK
      obtain ⟨e6a, e6b⟩ := hp.old_ 6 (.func (.func 92) #[.agg #[.iface 74 (.pointer (some ⟨b, 0, none⟩))]] #[])
      have hk := hK.pure (.func (.func 92) #[.agg #[.iface 74 (.pointer (some ⟨b, 0, none⟩))]] #[]) hp.S
      clear hp hK
      go_simp
      exact hk
    · intro a wu γ nph K hp hK
      obtain ⟨e3a, e3b⟩ := hp.old_ 3 (.pointer (some ⟨w.heap.size + 1, 0, none⟩))
      have hk := hK.pure (.pointer (some ⟨w.heap.size + 1, 2, none⟩)) hp.S
      clear hp hK
      go_simp
      exact hk
    · intro a wu γ nph K hp hK
      obtain ⟨e41a, e41b⟩ := hp.dep_ 41 11 (.pointer (some ⟨w.heap.size + 1, 2, none⟩))
      have hS : Sp wz1 b (fun _ => (most n)) [w.heap.size + 1 + 1] CL nph wu := hp.S
      have c3 := hS.at_ 3 ⟨w.heap.size + 1, 2, none⟩ (.int .i32 (q2).v) (by rw [hCL]; rfl)
      have hk := hK.pure (.int .i32 (q2).v) hp.S
      clear hp hK hS
      go_simp
      exact hk
    · intro a wu γ nph K hp hK
      obtain ⟨e3a, e3b⟩ := hp.old_ 3 (.pointer (some ⟨w.heap.size + 1, 0, none⟩))
      have hk := hK.pure (.pointer (some ⟨w.heap.size + 1, 2, none⟩)) hp.S
      clear hp hK
      go_simp
      exact hk
    · intro a wu γ nph K hp hK
      obtain ⟨e43a, e43b⟩ := hp.dep_ 43 13 (.pointer (some ⟨w.heap.size + 1, 2, none⟩))
      have hS : Sp wz1 b (fun _ => (most n)) [w.heap.size + 1 + 1] CL nph wu := hp.S
      have c3 := hS.at_ 3 ⟨w.heap.size + 1, 2, none⟩ (.int .i32 (q2).v) (by rw [hCL]; rfl)
      have hk := hK.pure (.int .i32 (q2).v) hp.S
      clear hp hK hS
      go_simp
      exact hk
    · intro a wu γ nph K hp hK
      obtain ⟨e40a, e40b⟩ := hp.dep_ 40 10 (.func (.func 92) #[.agg #[.iface 74 (.pointer (some ⟨b, 0, none⟩))]] #[])
      obtain ⟨e42a, e42b⟩ := hp.dep_ 42 12 (.int .i32 (q2).v)
      obtain ⟨e44a, e44b⟩ := hp.dep_ 44 14 (.int .i32 (q2).v)
      have hS : Sp wz1 b (fun _ => (most n)) [w.heap.size + 1 + 1] CL nph wu := hp.S
      have hk := hK.call (.int .i32 (mulqW (q2) (q2)).v)
      clear hp hK
      go_simp
      refine (w_mulq _ _ _ _).mono ?_
      rintro e w7 ⟨rfl, hcX⟩
      exact hk _ (hS.call hcX) (Reg.keep_callp _ rfl hS hcX)
    · intro a wu γ nph K hp hK
      obtain ⟨e39a, e39b⟩ := hp.dep_ 39 9 (.int .i32 (mulqW (q1) (q1)).v)
      obtain ⟨e45a, e45b⟩ := hp.dep_ 45 15 (.int .i32 (mulqW (q2) (q2)).v)
      have hk := hK.new 21 [.int .i32 (mulqW (q1) (q1)).v, .int .i32 (mulqW (q2) (q2)).v] (fun g => .slice (some ⟨g, 0, none⟩) 2 2)
      clear hp hK
      go_simp
      exact hk
    · intro a wu γ nph K hp hK
      obtain ⟨e30a, e30b⟩ := hp.dep_ 30 0 (.agg #[.iface 74 (.pointer (some ⟨b, 0, none⟩))])
      obtain ⟨e33a, e33b⟩ := hp.dep_ 33 3 (.int .i32 (kW (536870912)).v)
      obtain ⟨e46a, e46b⟩ := hp.dep_ 46 16 (.slice (some ⟨γ 16, 0, none⟩) 2 2)
      have hS : Sp wz1 b (fun _ => (most n)) [w.heap.size + 1 + 1] CL nph wu := hp.S
      have nb16 : Blk wu (γ 16) 21 [.int .i32 (mulqW (q1) (q1)).v, .int .i32 (mulqW (q2) (q2)).v] := (hp.blk_ 16 (T := 21) (c := [.int .i32 (mulqW (q1) (q1)).v, .int .i32 (mulqW (q2) (q2)).v])).1
      have hk := hK.call (.int .i32 (lessW (kW (536870912)) [mulqW (q1) (q1), mulqW (q2) (q2)]).v)
      clear hp hK
      go_simp
      refine (wless_calls _ _ [mulqW (q1) (q1), mulqW (q2) (q2)] _ _ (Sl.blk' (show Blk wu (γ 16) 21 (wds [mulqW (q1) (q1), mulqW (q2) (q2)]) from nb16) rfl (Nat.le_refl _)) (by simp)).mono ?_
      rintro e w7 ⟨rfl, hcX⟩
      exact hk _ (hS.call hcX) (Reg.keep_callp _ rfl hS hcX)
    · intro a wu γ nph K hp hK
      obtain ⟨e47a, e47b⟩ := hp.dep_ 47 17 (.int .i32 (lessW (kW (536870912)) [mulqW (q1) (q1), mulqW (q2) (q2)]).v)
      have hk := hK.pure (.int .i32 (lessW (kW (536870912)) [mulqW (q1) (q1), mulqW (q2) (q2)]).v) hp.S
      clear hp hK
      go_simp
      exact hk
  · intro a wu γ nph K hp hK
    obtain ⟨e2a, e2b⟩ := hp.old_ 2 (.pointer (some ⟨w.heap.size, 0, none⟩))
    have hS : Sp w6 b (fun _ => (most n)) [w.heap.size + 1 + 1] CL nph wu := hp.S
    have c0 := hS.at_ 0 ⟨w.heap.size, 0, none⟩ (.iface 74 (.pointer (some ⟨b, 0, none⟩))) (by rw [hCL]; rfl)
    have hk := hK.pure (.agg #[.iface 74 (.pointer (some ⟨b, 0, none⟩))]) hp.S
    clear hp hK hS
    go_simp
    exact hk
  · intro a wu γ nph K hp hK
    obtain ⟨e6a, e6b⟩ := hp.old_ 6 (.func (.func 92) #[.agg #[.iface 74 (.pointer (some ⟨b, 0, none⟩))]] #[])
    have hk := hK.pure (.func (.func 92) #[.agg #[.iface 74 (.pointer (some ⟨b, 0, none⟩))]] #[]) hp.S
    clear hp hK
    go_simp
    exact hk
  · intro a wu γ nph K hp hK
    obtain ⟨e3a, e3b⟩ := hp.old_ 3 (.pointer (some ⟨w.heap.size + 1, 0, none⟩))
    have hk := hK.pure (.pointer (some ⟨w.heap.size + 1, 0, none⟩)) hp.S
    clear hp hK
    go_simp
    exact hk
  · intro a wu γ nph K hp hK
    obtain ⟨e17a, e17b⟩ := hp.dep_ 17 2 (.pointer (some ⟨w.heap.size + 1, 0, none⟩))
    have hS : Sp w6 b (fun _ => (most n)) [w.heap.size + 1 + 1] CL nph wu := hp.S
    have c1 := hS.at_ 1 ⟨w.heap.size + 1, 0, none⟩ (.int .i32 (q0).v) (by rw [hCL]; rfl)
    have hk := hK.pure (.int .i32 (q0).v) hp.S
    clear hp hK hS
    go_simp
    exact hk
  · intro a wu γ nph K hp hK
    obtain ⟨e3a, e3b⟩ := hp.old_ 3 (.pointer (some ⟨w.heap.size + 1, 0, none⟩))
    have hk := hK.pure (.pointer (some ⟨w.heap.size + 1, 1, none⟩)) hp.S
    clear hp hK
    go_simp
    exact hk
  · intro a wu γ nph K hp hK
    obtain ⟨e19a, e19b⟩ := hp.dep_ 19 4 (.pointer (some ⟨w.heap.size + 1, 1, none⟩))
    have hS : Sp w6 b (fun _ => (most n)) [w.heap.size + 1 + 1] CL nph wu := hp.S
    have c2 := hS.at_ 2 ⟨w.heap.size + 1, 1, none⟩ (.int .i32 (q1).v) (by rw [hCL]; rfl)
    have hk := hK.pure (.int .i32 (q1).v) hp.S
    clear hp hK hS
    go_simp
    exact hk
  · intro a wu γ nph K hp hK
    obtain ⟨e16a, e16b⟩ := hp.dep_ 16 1 (.func (.func 92) #[.agg #[.iface 74 (.pointer (some ⟨b, 0, none⟩))]] #[])
    obtain ⟨e18a, e18b⟩ := hp.dep_ 18 3 (.int .i32 (q0).v)
    obtain ⟨e20a, e20b⟩ := hp.dep_ 20 5 (.int .i32 (q1).v)
    have hS : Sp w6 b (fun _ => (most n)) [w.heap.size + 1 + 1] CL nph wu := hp.S
    have hk := hK.call (.int .i32 (mulqW (q0) (q1)).v)
    clear hp hK
    go_simp
    refine (w_mulq _ _ _ _).mono ?_
    rintro e w7 ⟨rfl, hcX⟩
    exact hk _ (hS.call hcX) (Reg.keep_callp _ rfl hS hcX)
  · intro a wu γ nph K hp hK
    obtain ⟨e6a, e6b⟩ := hp.old_ 6 (.func (.func 92) #[.agg #[.iface 74 (.pointer (some ⟨b, 0, none⟩))]] #[])
    have hk := hK.pure (.func (.func 92) #[.agg #[.iface 74 (.pointer (some ⟨b, 0, none⟩))]] #[]) hp.S
    clear hp hK
    go_simp
    exact hk
  · intro a wu γ nph K hp hK
    obtain ⟨e3a, e3b⟩ := hp.old_ 3 (.pointer (some ⟨w.heap.size + 1, 0, none⟩))
    have hk := hK.pure (.pointer (some ⟨w.heap.size + 1, 2, none⟩)) hp.S
    clear hp hK
    go_simp
    exact hk
  · intro a wu γ nph K hp hK
    obtain ⟨e23a, e23b⟩ := hp.dep_ 23 8 (.pointer (some ⟨w.heap.size + 1, 2, none⟩))
    have hS : Sp w6 b (fun _ => (most n)) [w.heap.size + 1 + 1] CL nph wu := hp.S
    have c3 := hS.at_ 3 ⟨w.heap.size + 1, 2, none⟩ (.int .i32 (q2).v) (by rw [hCL]; rfl)
    have hk := hK.pure (.int .i32 (q2).v) hp.S
    clear hp hK hS
    go_simp
    exact hk
  · intro a wu γ nph K hp hK
    obtain ⟨e3a, e3b⟩ := hp.old_ 3 (.pointer (some ⟨w.heap.size + 1, 0, none⟩))
    have hk := hK.pure (.pointer (some ⟨w.heap.size + 1, 3, none⟩)) hp.S
    clear hp hK
    go_simp
    exact hk
  · intro a wu γ nph K hp hK
    obtain ⟨e25a, e25b⟩ := hp.dep_ 25 10 (.pointer (some ⟨w.heap.size + 1, 3, none⟩))
    have hS : Sp w6 b (fun _ => (most n)) [w.heap.size + 1 + 1] CL nph wu := hp.S
    have c4 := hS.at_ 4 ⟨w.heap.size + 1, 3, none⟩ (.int .i32 (q3).v) (by rw [hCL]; rfl)
    have hk := hK.pure (.int .i32 (q3).v) hp.S
    clear hp hK hS
    go_simp
    exact hk
  · intro a wu γ nph K hp hK
    obtain ⟨e22a, e22b⟩ := hp.dep_ 22 7 (.func (.func 92) #[.agg #[.iface 74 (.pointer (some ⟨b, 0, none⟩))]] #[])
    obtain ⟨e24a, e24b⟩ := hp.dep_ 24 9 (.int .i32 (q2).v)
    obtain ⟨e26a, e26b⟩ := hp.dep_ 26 11 (.int .i32 (q3).v)
    have hS : Sp w6 b (fun _ => (most n)) [w.heap.size + 1 + 1] CL nph wu := hp.S
    have hk := hK.call (.int .i32 (mulqW (q2) (q3)).v)
    clear hp hK
    go_simp
    refine (w_mulq _ _ _ _).mono ?_
    rintro e w7 ⟨rfl, hcX⟩
    exact hk _ (hS.call hcX) (Reg.keep_callp _ rfl hS hcX)
  · intro a wu γ nph K hp hK
    obtain ⟨e27a, e27b⟩ := hp.dep_ 27 12 (.int .i32 (mulqW (q2) (q3)).v)
    have hk := hK.new 21 [.int .i32 (mulqW (q2) (q3)).v] (fun g => .slice (some ⟨g, 0, none⟩) 1 1)
    clear hp hK
    go_simp
    exact hk
  · intro a wu γ nph K hp hK
    obtain ⟨e15a, e15b⟩ := hp.dep_ 15 0 (.agg #[.iface 74 (.pointer (some ⟨b, 0, none⟩))])
    obtain ⟨e21a, e21b⟩ := hp.dep_ 21 6 (.int .i32 (mulqW (q0) (q1)).v)
    obtain ⟨e28a, e28b⟩ := hp.dep_ 28 13 (.slice (some ⟨γ 13, 0, none⟩) 1 1)
    have hS : Sp w6 b (fun _ => (most n)) [w.heap.size + 1 + 1] CL nph wu := hp.S
    have nb13 : Blk wu (γ 13) 21 [.int .i32 (mulqW (q2) (q3)).v] := (hp.blk_ 13 (T := 21) (c := [.int .i32 (mulqW (q2) (q3)).v])).1
    have hk := hK.call (.int .i32 (moreW (mulqW (q0) (q1)) [mulqW (q2) (q3)]).v)
    clear hp hK
    go_simp
    refine (wmore_calls _ _ [mulqW (q2) (q3)] _ _ (Sl.blk' (show Blk wu (γ 13) 21 (wds [mulqW (q2) (q3)]) from nb13) rfl (Nat.le_refl _)) (by simp)).mono ?_
    rintro e w7 ⟨rfl, hcX⟩
    exact hk _ (hS.call hcX) (Reg.keep_callp _ rfl hS hcX)
  · intro a wu γ nph K hp hK
    obtain ⟨e29a, e29b⟩ := hp.dep_ 29 14 (.int .i32 (moreW (mulqW (q0) (q1)) [mulqW (q2) (q3)]).v)
    have hk := hK.pure (.int .i32 (moreW (mulqW (q0) (q1)) [mulqW (q2) (q3)]).v) hp.S
    clear hp hK
    go_simp
    exact hk

end Go.Proofs.YtbmfcedndbgpoaaGreat
