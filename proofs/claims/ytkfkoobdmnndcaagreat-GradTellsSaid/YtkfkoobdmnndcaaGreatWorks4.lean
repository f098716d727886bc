/- Times, Rate of package works at numbers. -/
import Derived.Test.YtkfkoobdmnndcaaGreatWorks3
import Derived.Test.YtkfkoobdmnndcaaGreatSlots2
namespace Go.Proofs.YtkfkoobdmnndcaaGreat
open Go.RowKit Go.Deep
set_option linter.unusedVariables false
theorem sl4 {w : World} {b : Nat} {x0 x1 x2 x3 : Wd} (h0 : w.cell? ⟨b, 0, none⟩ = some (.int .i32 x0.v)) (h1 : w.cell? ⟨b, 1, none⟩ = some (.int .i32 x1.v)) (h2 : w.cell? ⟨b, 2, none⟩ = some (.int .i32 x2.v)) (h3 : w.cell? ⟨b, 3, none⟩ = some (.int .i32 x3.v)) :
    Sl w (.slice (some ⟨b, 0, none⟩) 4 4) (wds [x0, x1, x2, x3]) :=
  ⟨some ⟨b, 0, none⟩, 4, rfl, by simp [wds], fun _ => ⟨b, 0, rfl, fun k hk => by
    match k, hk with
    | 0, _ => exact h0
    | 1, _ => exact h1
    | 2, _ => exact h2
    | 3, _ => exact h3⟩⟩
theorem sl3 {w : World} {b : Nat} {x0 x1 x2 : Wd} (h0 : w.cell? ⟨b, 0, none⟩ = some (.int .i32 x0.v)) (h1 : w.cell? ⟨b, 1, none⟩ = some (.int .i32 x1.v)) (h2 : w.cell? ⟨b, 2, none⟩ = some (.int .i32 x2.v)) :
    Sl w (.slice (some ⟨b, 0, none⟩) 3 3) (wds [x0, x1, x2]) :=
  ⟨some ⟨b, 0, none⟩, 3, rfl, by simp [wds], fun _ => ⟨b, 0, rfl, fun k hk => by
    match k, hk with
    | 0, _ => exact h0
    | 1, _ => exact h1
    | 2, _ => exact h2⟩⟩
set_option maxRecDepth 100000 in
set_option maxHeartbeats 1000000 in
theorem wtimesQ_calls (p : Addr) (x0 x1 x2 x3 y0 y1 y2 y3 : Wd) (w : World) :
    Calls Tryz.prog 86 #[.agg #[.iface 59 (.pointer (some p))], .agg #[.int .i32 x0.v, .int .i32 x1.v, .int .i32 x2.v, .int .i32 x3.v], .agg #[.int .i32 y0.v, .int .i32 y1.v, .int .i32 y2.v, .int .i32 y3.v]] w fun e w' => e = .returned (.agg #[.int .i32 (timesW x0 x1 x2 x3 y0 y1 y2 y3).a.v, .int .i32 (timesW x0 x1 x2 x3 y0 y1 y2 y3).b.v, .int .i32 (timesW x0 x1 x2 x3 y0 y1 y2 y3).c.v, .int .i32 (timesW x0 x1 x2 x3 y0 y1 y2 y3).d.v]) ∧ Chg w w' [] := by
  have k0 := Blk.new w 40 [.iface 59 (.pointer (some p))]
  have m0 := (((k0.alloc (.cells #[.int .i32 x0.v, .int .i32 x1.v, .int .i32 x2.v, .int .i32 x3.v] 27)).alloc (.cells #[.int .i32 y0.v, .int .i32 y1.v, .int .i32 y2.v, .int .i32 y3.v] 27)).alloc (.cells #[.int .i32 0, .int .i32 0, .int .i32 0, .int .i32 0] 27))
  have g0_0 := m0.cell' (i := 0) rfl
  have k1 := Blk.new (w.alloc (.cells #[.iface 59 (.pointer (some p))] 40)) 27 [.int .i32 x0.v, .int .i32 x1.v, .int .i32 x2.v, .int .i32 x3.v]
  have m1 := ((k1.alloc (.cells #[.int .i32 y0.v, .int .i32 y1.v, .int .i32 y2.v, .int .i32 y3.v] 27)).alloc (.cells #[.int .i32 0, .int .i32 0, .int .i32 0, .int .i32 0] 27))
  simp only [size_alloc] at m1
  have g1_0 := m1.cell' (i := 0) rfl
  have g1_1 := m1.cell' (i := 1) rfl
  have g1_2 := m1.cell' (i := 2) rfl
  have g1_3 := m1.cell' (i := 3) rfl
  have k2 := Blk.new ((w.alloc (.cells #[.iface 59 (.pointer (some p))] 40)).alloc (.cells #[.int .i32 x0.v, .int .i32 x1.v, .int .i32 x2.v, .int .i32 x3.v] 27)) 27 [.int .i32 y0.v, .int .i32 y1.v, .int .i32 y2.v, .int .i32 y3.v]
  have m2 := (k2.alloc (.cells #[.int .i32 0, .int .i32 0, .int .i32 0, .int .i32 0] 27))
  simp only [size_alloc] at m2
  have g2_0 := m2.cell' (i := 0) rfl
  have g2_1 := m2.cell' (i := 1) rfl
  have g2_2 := m2.cell' (i := 2) rfl
  have g2_3 := m2.cell' (i := 3) rfl
  have k3 := Blk.new (((w.alloc (.cells #[.iface 59 (.pointer (some p))] 40)).alloc (.cells #[.int .i32 x0.v, .int .i32 x1.v, .int .i32 x2.v, .int .i32 x3.v] 27)).alloc (.cells #[.int .i32 y0.v, .int .i32 y1.v, .int .i32 y2.v, .int .i32 y3.v] 27)) 27 [.int .i32 0, .int .i32 0, .int .i32 0, .int .i32 0]
  have m3 := k3
  simp only [size_alloc] at m3
  have g3_0 := m3.cell' (i := 0) rfl
  have g3_1 := m3.cell' (i := 1) rfl
  have g3_2 := m3.cell' (i := 2) rfl
  have g3_3 := m3.cell' (i := 3) rfl
  have HC := hide (((((Chg.refl w []).alloc (.cells #[.iface 59 (.pointer (some p))] 40)).alloc (.cells #[.int .i32 x0.v, .int .i32 x1.v, .int .i32 x2.v, .int .i32 x3.v] 27)).alloc (.cells #[.int .i32 y0.v, .int .i32 y1.v, .int .i32 y2.v, .int .i32 y3.v] 27)).alloc (.cells #[.int .i32 0, .int .i32 0, .int .i32 0, .int .i32 0] 27))
  clear k0 k1 k2 k3
  go_enter Tryz.func86, Tryz.ntmps86
  go_wp2_with fail
  generalize ((((w.alloc (.cells #[.iface 59 (.pointer (some p))] 40)).alloc (.cells #[.int .i32 x0.v, .int .i32 x1.v, .int .i32 x2.v, .int .i32 x3.v] 27)).alloc (.cells #[.int .i32 y0.v, .int .i32 y1.v, .int .i32 y2.v, .int .i32 y3.v] 27)).alloc (.cells #[.int .i32 0, .int .i32 0, .int .i32 0, .int .i32 0] 27)) = w6 at *
  obtain ⟨CL, hCL⟩ : ∃ l : List (Addr × Value), l = [(⟨w.heap.size, 0, none⟩, .iface 59 (.pointer (some p))), (⟨w.heap.size + 1, 0, none⟩, .int .i32 (x0).v), (⟨w.heap.size + 1, 1, none⟩, .int .i32 (x1).v), (⟨w.heap.size + 1, 2, none⟩, .int .i32 (x2).v), (⟨w.heap.size + 1, 3, none⟩, .int .i32 (x3).v), (⟨w.heap.size + 1 + 1, 0, none⟩, .int .i32 (y0).v), (⟨w.heap.size + 1 + 1, 1, none⟩, .int .i32 (y1).v), (⟨w.heap.size + 1 + 1, 2, none⟩, .int .i32 (y2).v), (⟨w.heap.size + 1 + 1, 3, none⟩, .int .i32 (y3).v)] := ⟨_, rfl⟩
  have HS0 : Sd w6 [w.heap.size + 1 + 1 + 1] CL w6.drew := ⟨(Chg.refl w6 _).drew, by rw [hCL]; simp only [List.forall_mem_cons]; exact ⟨g0_0, g1_0, g1_1, g1_2, g1_3, g2_0, g2_1, g2_2, g2_3, by simp⟩⟩
  have hU0 : ∀ p ∈ CL, p.1.block ∈ ([w.heap.size, w.heap.size + 1, w.heap.size + 1 + 1] : List Nat) := by rw [hCL]; simp only [List.forall_mem_cons]; exact ⟨by simp, by simp, by simp, by simp, by simp, by simp, by simp, by simp, by simp, by simp⟩
  have hlt0 : ∀ u ∈ ([w.heap.size, w.heap.size + 1, w.heap.size + 1 + 1] : List Nat), u < w6.heap.size := by simp only [List.forall_mem_cons]; exact ⟨World.block_lt_of_cell? _ _ g0_0, World.block_lt_of_cell? _ _ g1_0, World.block_lt_of_cell? _ _ g2_0, by simp⟩
  refine Reg.wp_region (Reg.of 38 _ _ [.agg #[.iface 59 (.pointer (some p))], .slice (some ⟨w.heap.size + 1, 0, none⟩) 4 4, .slice (some ⟨w.heap.size + 1 + 1, 0, none⟩) 4 4, .agg #[.int .i64 0, .int .i64 0, .bool false], .agg #[.int .i64 1, .int .i64 1, .bool true], .agg #[.int .i64 2, .int .i64 2, .bool true], .agg #[.int .i64 3, .int .i64 3, .bool true], undef, .int .i32 (totalW [x0, x1, x2, x3] [y0, y1, y2, y3] ⟨0, 0, false⟩ [⟨1, 1, true⟩, ⟨2, 2, true⟩, ⟨3, 3, true⟩]).v, .agg #[.iface 59 (.pointer (some p))], .slice (some ⟨w.heap.size + 1, 0, none⟩) 4 4, .slice (some ⟨w.heap.size + 1 + 1, 0, none⟩) 4 4, .agg #[.int .i64 0, .int .i64 1, .bool false], .agg #[.int .i64 1, .int .i64 0, .bool false], .agg #[.int .i64 2, .int .i64 3, .bool false], .agg #[.int .i64 3, .int .i64 2, .bool true], undef, .int .i32 (totalW [x0, x1, x2, x3] [y0, y1, y2, y3] ⟨0, 1, false⟩ [⟨1, 0, false⟩, ⟨2, 3, false⟩, ⟨3, 2, true⟩]).v, .agg #[.iface 59 (.pointer (some p))], .slice (some ⟨w.heap.size + 1, 0, none⟩) 4 4, .slice (some ⟨w.heap.size + 1 + 1, 0, none⟩) 4 4, .agg #[.int .i64 0, .int .i64 2, .bool false], .agg #[.int .i64 1, .int .i64 3, .bool true], .agg #[.int .i64 2, .int .i64 0, .bool false], .agg #[.int .i64 3, .int .i64 1, .bool false], undef, .int .i32 (totalW [x0, x1, x2, x3] [y0, y1, y2, y3] ⟨0, 2, false⟩ [⟨1, 3, true⟩, ⟨2, 0, false⟩, ⟨3, 1, false⟩]).v, .agg #[.iface 59 (.pointer (some p))], .slice (some ⟨w.heap.size + 1, 0, none⟩) 4 4, .slice (some ⟨w.heap.size + 1 + 1, 0, none⟩) 4 4, .agg #[.int .i64 0, .int .i64 3, .bool false], .agg #[.int .i64 1, .int .i64 2, .bool false], .agg #[.int .i64 2, .int .i64 1, .bool true], .agg #[.int .i64 3, .int .i64 0, .bool false], undef, .int .i32 (totalW [x0, x1, x2, x3] [y0, y1, y2, y3] ⟨0, 3, false⟩ [⟨1, 2, false⟩, ⟨2, 1, true⟩, ⟨3, 0, false⟩]).v, .agg #[.int .i32 (totalW [x0, x1, x2, x3] [y0, y1, y2, y3] ⟨0, 0, false⟩ [⟨1, 1, true⟩, ⟨2, 2, true⟩, ⟨3, 3, true⟩]).v, .int .i32 (totalW [x0, x1, x2, x3] [y0, y1, y2, y3] ⟨0, 1, false⟩ [⟨1, 0, false⟩, ⟨2, 3, false⟩, ⟨3, 2, true⟩]).v, .int .i32 (totalW [x0, x1, x2, x3] [y0, y1, y2, y3] ⟨0, 2, false⟩ [⟨1, 3, true⟩, ⟨2, 0, false⟩, ⟨3, 1, false⟩]).v, .int .i32 (totalW [x0, x1, x2, x3] [y0, y1, y2, y3] ⟨0, 3, false⟩ [⟨1, 2, false⟩, ⟨2, 1, true⟩, ⟨3, 0, false⟩]).v], undef] [fun _ => undef, fun _ => undef, fun _ => undef, fun _ => undef, fun _ => undef, fun _ => undef, fun _ => undef, fun g => .slice (some ⟨g, 0, none⟩) 4 4, fun _ => undef, fun _ => undef, fun _ => undef, fun _ => undef, fun _ => undef, fun _ => undef, fun _ => undef, fun _ => undef, fun g => .slice (some ⟨g, 0, none⟩) 4 4, fun _ => undef, fun _ => undef, fun _ => undef, fun _ => undef, fun _ => undef, fun _ => undef, fun _ => undef, fun _ => undef, fun g => .slice (some ⟨g, 0, none⟩) 4 4, fun _ => undef, fun _ => undef, fun _ => undef, fun _ => undef, fun _ => undef, fun _ => undef, fun _ => undef, fun _ => undef, fun g => .slice (some ⟨g, 0, none⟩) 4 4, fun _ => undef, fun _ => undef, fun _ => undef] [.val, .val, .val, .val, .val, .val, .val, .new 92 [.int .i64 0, .int .i64 0, .bool false, .int .i64 1, .int .i64 1, .bool true, .int .i64 2, .int .i64 2, .bool true, .int .i64 3, .int .i64 3, .bool true], .val, .val, .val, .val, .val, .val, .val, .val, .new 92 [.int .i64 0, .int .i64 1, .bool false, .int .i64 1, .int .i64 0, .bool false, .int .i64 2, .int .i64 3, .bool false, .int .i64 3, .int .i64 2, .bool true], .val, .val, .val, .val, .val, .val, .val, .val, .new 92 [.int .i64 0, .int .i64 2, .bool false, .int .i64 1, .int .i64 3, .bool true, .int .i64 2, .int .i64 0, .bool false, .int .i64 3, .int .i64 1, .bool false], .val, .val, .val, .val, .val, .val, .val, .val, .new 92 [.int .i64 0, .int .i64 3, .bool false, .int .i64 1, .int .i64 2, .bool false, .int .i64 2, .int .i64 1, .bool true, .int .i64 3, .int .i64 0, .bool false], .val, .val, .put 38 [.int .i32 (totalW [x0, x1, x2, x3] [y0, y1, y2, y3] ⟨0, 0, false⟩ [⟨1, 1, true⟩, ⟨2, 2, true⟩, ⟨3, 3, true⟩]).v, .int .i32 (totalW [x0, x1, x2, x3] [y0, y1, y2, y3] ⟨0, 1, false⟩ [⟨1, 0, false⟩, ⟨2, 3, false⟩, ⟨3, 2, true⟩]).v, .int .i32 (totalW [x0, x1, x2, x3] [y0, y1, y2, y3] ⟨0, 2, false⟩ [⟨1, 3, true⟩, ⟨2, 0, false⟩, ⟨3, 1, false⟩]).v, .int .i32 (totalW [x0, x1, x2, x3] [y0, y1, y2, y3] ⟨0, 3, false⟩ [⟨1, 2, false⟩, ⟨2, 1, true⟩, ⟨3, 0, false⟩]).v]] [(27, [.int .i32 0, .int .i32 0, .int .i32 0, .int .i32 0])] [w.heap.size + 1 + 1 + 1] [] (fun _ => Sd w6 [w.heap.size + 1 + 1 + 1] CL) (Fd w6 [w.heap.size + 1 + 1 + 1] [w.heap.size, w.heap.size + 1, w.heap.size + 1 + 1])) (Reg.good_of _ 44 (by kernel_rfl) (by kernel_rfl)) (stands_d _ w6 [w.heap.size + 1 + 1 + 1] [w.heap.size, w.heap.size + 1, w.heap.size + 1 + 1] CL rfl rfl rfl hU0 hlt0) (by kernel_rfl) HS0 (hold_of (by kernel_rfl) ?holdwz) (ne_of (by kernel_rfl) ?hnewz) (Reg.steps_of _ rfl ⟨?_, ?_, ?_, ?_, ?_, ?_, ?_, ?_, ?_, ?_, ?_, ?_, ?_, ?_, ?_, ?_, ?_, ?_, ?_, ?_, ?_, ?_, ?_, ?_, ?_, ?_, ?_, ?_, ?_, ?_, ?_, ?_, ?_, ?_, ?_, ?_, ?_, ?_, trivial⟩) ?hendwz
  case holdwz =>
    intro k T c hk
    cases k with
    | zero => simp only [List.getElem?_cons_zero, Option.some.injEq, Prod.mk.injEq] at hk; obtain ⟨rfl, rfl⟩ := hk; exact ⟨m3, ⟨by simp; try omega, .inl (by simp)⟩⟩
    | succ k =>
      simp at hk
  case hnewz => intro i j hi hj hne; simp at hi hj; omega
  case hendwz =>
    intro wz γ hSz hBz hnez hOz
    replace hSz : Sd w6 [w.heap.size + 1 + 1 + 1] CL wz := hSz
    have nb7 : Blk wz (γ 7) 92 [.int .i64 0, .int .i64 0, .bool false, .int .i64 1, .int .i64 1, .bool true, .int .i64 2, .int .i64 2, .bool true, .int .i64 3, .int .i64 3, .bool true] := (hBz 7 92 [.int .i64 0, .int .i64 0, .bool false, .int .i64 1, .int .i64 1, .bool true, .int .i64 2, .int .i64 2, .bool true, .int .i64 3, .int .i64 3, .bool true] (by kernel_rfl) [.int .i64 0, .int .i64 0, .bool false, .int .i64 1, .int .i64 1, .bool true, .int .i64 2, .int .i64 2, .bool true, .int .i64 3, .int .i64 3, .bool true] (by kernel_rfl)).1
    have nf7 : Fd w6 [w.heap.size + 1 + 1 + 1] [w.heap.size, w.heap.size + 1, w.heap.size + 1 + 1] wz (γ 7) := (hBz 7 92 [.int .i64 0, .int .i64 0, .bool false, .int .i64 1, .int .i64 1, .bool true, .int .i64 2, .int .i64 2, .bool true, .int .i64 3, .int .i64 3, .bool true] (by kernel_rfl) [.int .i64 0, .int .i64 0, .bool false, .int .i64 1, .int .i64 1, .bool true, .int .i64 2, .int .i64 2, .bool true, .int .i64 3, .int .i64 3, .bool true] (by kernel_rfl)).2.1
    have nb16 : Blk wz (γ 16) 92 [.int .i64 0, .int .i64 1, .bool false, .int .i64 1, .int .i64 0, .bool false, .int .i64 2, .int .i64 3, .bool false, .int .i64 3, .int .i64 2, .bool true] := (hBz 16 92 [.int .i64 0, .int .i64 1, .bool false, .int .i64 1, .int .i64 0, .bool false, .int .i64 2, .int .i64 3, .bool false, .int .i64 3, .int .i64 2, .bool true] (by kernel_rfl) [.int .i64 0, .int .i64 1, .bool false, .int .i64 1, .int .i64 0, .bool false, .int .i64 2, .int .i64 3, .bool false, .int .i64 3, .int .i64 2, .bool true] (by kernel_rfl)).1
    have nf16 : Fd w6 [w.heap.size + 1 + 1 + 1] [w.heap.size, w.heap.size + 1, w.heap.size + 1 + 1] wz (γ 16) := (hBz 16 92 [.int .i64 0, .int .i64 1, .bool false, .int .i64 1, .int .i64 0, .bool false, .int .i64 2, .int .i64 3, .bool false, .int .i64 3, .int .i64 2, .bool true] (by kernel_rfl) [.int .i64 0, .int .i64 1, .bool false, .int .i64 1, .int .i64 0, .bool false, .int .i64 2, .int .i64 3, .bool false, .int .i64 3, .int .i64 2, .bool true] (by kernel_rfl)).2.1
    have nb25 : Blk wz (γ 25) 92 [.int .i64 0, .int .i64 2, .bool false, .int .i64 1, .int .i64 3, .bool true, .int .i64 2, .int .i64 0, .bool false, .int .i64 3, .int .i64 1, .bool false] := (hBz 25 92 [.int .i64 0, .int .i64 2, .bool false, .int .i64 1, .int .i64 3, .bool true, .int .i64 2, .int .i64 0, .bool false, .int .i64 3, .int .i64 1, .bool false] (by kernel_rfl) [.int .i64 0, .int .i64 2, .bool false, .int .i64 1, .int .i64 3, .bool true, .int .i64 2, .int .i64 0, .bool false, .int .i64 3, .int .i64 1, .bool false] (by kernel_rfl)).1
    have nf25 : Fd w6 [w.heap.size + 1 + 1 + 1] [w.heap.size, w.heap.size + 1, w.heap.size + 1 + 1] wz (γ 25) := (hBz 25 92 [.int .i64 0, .int .i64 2, .bool false, .int .i64 1, .int .i64 3, .bool true, .int .i64 2, .int .i64 0, .bool false, .int .i64 3, .int .i64 1, .bool false] (by kernel_rfl) [.int .i64 0, .int .i64 2, .bool false, .int .i64 1, .int .i64 3, .bool true, .int .i64 2, .int .i64 0, .bool false, .int .i64 3, .int .i64 1, .bool false] (by kernel_rfl)).2.1
    have nb34 : Blk wz (γ 34) 92 [.int .i64 0, .int .i64 3, .bool false, .int .i64 1, .int .i64 2, .bool false, .int .i64 2, .int .i64 1, .bool true, .int .i64 3, .int .i64 0, .bool false] := (hBz 34 92 [.int .i64 0, .int .i64 3, .bool false, .int .i64 1, .int .i64 2, .bool false, .int .i64 2, .int .i64 1, .bool true, .int .i64 3, .int .i64 0, .bool false] (by kernel_rfl) [.int .i64 0, .int .i64 3, .bool false, .int .i64 1, .int .i64 2, .bool false, .int .i64 2, .int .i64 1, .bool true, .int .i64 3, .int .i64 0, .bool false] (by kernel_rfl)).1
    have nf34 : Fd w6 [w.heap.size + 1 + 1 + 1] [w.heap.size, w.heap.size + 1, w.heap.size + 1 + 1] wz (γ 34) := (hBz 34 92 [.int .i64 0, .int .i64 3, .bool false, .int .i64 1, .int .i64 2, .bool false, .int .i64 2, .int .i64 1, .bool true, .int .i64 3, .int .i64 0, .bool false] (by kernel_rfl) [.int .i64 0, .int .i64 3, .bool false, .int .i64 1, .int .i64 2, .bool false, .int .i64 2, .int .i64 1, .bool true, .int .i64 3, .int .i64 0, .bool false] (by kernel_rfl)).2.1
    have ob0 : Blk wz (w.heap.size + 1 + 1 + 1) 27 [.int .i32 (totalW [x0, x1, x2, x3] [y0, y1, y2, y3] ⟨0, 0, false⟩ [⟨1, 1, true⟩, ⟨2, 2, true⟩, ⟨3, 3, true⟩]).v, .int .i32 (totalW [x0, x1, x2, x3] [y0, y1, y2, y3] ⟨0, 1, false⟩ [⟨1, 0, false⟩, ⟨2, 3, false⟩, ⟨3, 2, true⟩]).v, .int .i32 (totalW [x0, x1, x2, x3] [y0, y1, y2, y3] ⟨0, 2, false⟩ [⟨1, 3, true⟩, ⟨2, 0, false⟩, ⟨3, 1, false⟩]).v, .int .i32 (totalW [x0, x1, x2, x3] [y0, y1, y2, y3] ⟨0, 3, false⟩ [⟨1, 2, false⟩, ⟨2, 1, true⟩, ⟨3, 0, false⟩]).v] := by have h := (hBz 38 27 [.int .i32 0, .int .i32 0, .int .i32 0, .int .i32 0] (by kernel_rfl) [.int .i32 (totalW [x0, x1, x2, x3] [y0, y1, y2, y3] ⟨0, 0, false⟩ [⟨1, 1, true⟩, ⟨2, 2, true⟩, ⟨3, 3, true⟩]).v, .int .i32 (totalW [x0, x1, x2, x3] [y0, y1, y2, y3] ⟨0, 1, false⟩ [⟨1, 0, false⟩, ⟨2, 3, false⟩, ⟨3, 2, true⟩]).v, .int .i32 (totalW [x0, x1, x2, x3] [y0, y1, y2, y3] ⟨0, 2, false⟩ [⟨1, 3, true⟩, ⟨2, 0, false⟩, ⟨3, 1, false⟩]).v, .int .i32 (totalW [x0, x1, x2, x3] [y0, y1, y2, y3] ⟨0, 3, false⟩ [⟨1, 2, false⟩, ⟨2, 1, true⟩, ⟨3, 0, false⟩]).v] (by kernel_rfl)).1; rw [hOz 38 (Nat.le_trans (Nat.le_of_eq (by kernel_rfl : _ = 38)) (by decide : 38 ≤ 38))] at h; exact h
    refine end_of [(7, .agg #[.iface 59 (.pointer (some p))]), (8, .slice (some ⟨w.heap.size + 1, 0, none⟩) 4 4), (9, .slice (some ⟨w.heap.size + 1 + 1, 0, none⟩) 4 4), (10, .agg #[.int .i64 0, .int .i64 0, .bool false]), (11, .agg #[.int .i64 1, .int .i64 1, .bool true]), (12, .agg #[.int .i64 2, .int .i64 2, .bool true]), (13, .agg #[.int .i64 3, .int .i64 3, .bool true]), (14, .slice (some ⟨γ 7, 0, none⟩) 4 4), (15, .int .i32 (totalW [x0, x1, x2, x3] [y0, y1, y2, y3] ⟨0, 0, false⟩ [⟨1, 1, true⟩, ⟨2, 2, true⟩, ⟨3, 3, true⟩]).v), (16, .agg #[.iface 59 (.pointer (some p))]), (17, .slice (some ⟨w.heap.size + 1, 0, none⟩) 4 4), (18, .slice (some ⟨w.heap.size + 1 + 1, 0, none⟩) 4 4), (19, .agg #[.int .i64 0, .int .i64 1, .bool false]), (20, .agg #[.int .i64 1, .int .i64 0, .bool false]), (21, .agg #[.int .i64 2, .int .i64 3, .bool false]), (22, .agg #[.int .i64 3, .int .i64 2, .bool true]), (23, .slice (some ⟨γ 16, 0, none⟩) 4 4), (24, .int .i32 (totalW [x0, x1, x2, x3] [y0, y1, y2, y3] ⟨0, 1, false⟩ [⟨1, 0, false⟩, ⟨2, 3, false⟩, ⟨3, 2, true⟩]).v), (25, .agg #[.iface 59 (.pointer (some p))]), (26, .slice (some ⟨w.heap.size + 1, 0, none⟩) 4 4), (27, .slice (some ⟨w.heap.size + 1 + 1, 0, none⟩) 4 4), (28, .agg #[.int .i64 0, .int .i64 2, .bool false]), (29, .agg #[.int .i64 1, .int .i64 3, .bool true]), (30, .agg #[.int .i64 2, .int .i64 0, .bool false]), (31, .agg #[.int .i64 3, .int .i64 1, .bool false]), (32, .slice (some ⟨γ 25, 0, none⟩) 4 4), (33, .int .i32 (totalW [x0, x1, x2, x3] [y0, y1, y2, y3] ⟨0, 2, false⟩ [⟨1, 3, true⟩, ⟨2, 0, false⟩, ⟨3, 1, false⟩]).v), (34, .agg #[.iface 59 (.pointer (some p))]), (35, .slice (some ⟨w.heap.size + 1, 0, none⟩) 4 4), (36, .slice (some ⟨w.heap.size + 1 + 1, 0, none⟩) 4 4), (37, .agg #[.int .i64 0, .int .i64 3, .bool false]), (38, .agg #[.int .i64 1, .int .i64 2, .bool false]), (39, .agg #[.int .i64 2, .int .i64 1, .bool true]), (40, .agg #[.int .i64 3, .int .i64 0, .bool false]), (41, .slice (some ⟨γ 34, 0, none⟩) 4 4), (42, .int .i32 (totalW [x0, x1, x2, x3] [y0, y1, y2, y3] ⟨0, 3, false⟩ [⟨1, 2, false⟩, ⟨2, 1, true⟩, ⟨3, 0, false⟩]).v), (43, .agg #[.int .i32 (totalW [x0, x1, x2, x3] [y0, y1, y2, y3] ⟨0, 0, false⟩ [⟨1, 1, true⟩, ⟨2, 2, true⟩, ⟨3, 3, true⟩]).v, .int .i32 (totalW [x0, x1, x2, x3] [y0, y1, y2, y3] ⟨0, 1, false⟩ [⟨1, 0, false⟩, ⟨2, 3, false⟩, ⟨3, 2, true⟩]).v, .int .i32 (totalW [x0, x1, x2, x3] [y0, y1, y2, y3] ⟨0, 2, false⟩ [⟨1, 3, true⟩, ⟨2, 0, false⟩, ⟨3, 1, false⟩]).v, .int .i32 (totalW [x0, x1, x2, x3] [y0, y1, y2, y3] ⟨0, 3, false⟩ [⟨1, 2, false⟩, ⟨2, 1, true⟩, ⟨3, 0, false⟩]).v])] (by kernel_rfl) ?_
    clear hBz hnez hOz HS0 hU0
    simp only [Reg.of, List.foldl_cons, List.foldl_nil, List.setIfInBounds_toArray, List.set_cons_zero, List.set_cons_succ]
    generalize γ 7 = b7 at *
    generalize γ 16 = b16 at *
    generalize γ 25 = b25 at *
    generalize γ 34 = b34 at *
    have q0 := ob0.cell' (i := 0) rfl
    have q1 := ob0.cell' (i := 1) rfl
    have q2 := ob0.cell' (i := 2) rfl
    have q3 := ob0.cell' (i := 3) rfl
    have HZ := hide hSz.chg
    clear hSz
    go_wp2
    refine bodyPost_ret (v := .agg #[.int .i32 (timesW x0 x1 x2 x3 y0 y1 y2 y3).a.v, .int .i32 (timesW x0 x1 x2 x3 y0 y1 y2 y3).b.v, .int .i32 (timesW x0 x1 x2 x3 y0 y1 y2 y3).c.v, .int .i32 (timesW x0 x1 x2 x3 y0 y1 y2 y3).d.v]) (by simp [results, Tryz.f86, go_sem, q0, q1, q2, q3]; exact ⟨rfl, rfl, rfl, rfl⟩) rfl ⟨rfl, HC.out.trans HZ.out (by simp; try omega)⟩
  · intro a wu γ nph K hp hK
    obtain ⟨e3a, e3b⟩ := hp.old_ 3 (.pointer (some ⟨w.heap.size, 0, none⟩))
    have hS : Sd w6 [w.heap.size + 1 + 1 + 1] CL wu := hp.S
    have c0 := hS.at_ 0 ⟨w.heap.size, 0, none⟩ (.iface 59 (.pointer (some p))) (by rw [hCL]; rfl)
    have hk := hK.pure (.agg #[.iface 59 (.pointer (some p))]) hp.S
    clear hp hK hS
    go_simp
    exact hk
  · intro a wu γ nph K hp hK
    obtain ⟨e4a, e4b⟩ := hp.old_ 4 (.pointer (some ⟨w.heap.size + 1, 0, none⟩))
    have hk := hK.pure (.slice (some ⟨w.heap.size + 1, 0, none⟩) 4 4) hp.S
    clear hp hK
    go_simp
    exact hk
  · intro a wu γ nph K hp hK
    obtain ⟨e5a, e5b⟩ := hp.old_ 5 (.pointer (some ⟨w.heap.size + 1 + 1, 0, none⟩))
    have hk := hK.pure (.slice (some ⟨w.heap.size + 1 + 1, 0, none⟩) 4 4) hp.S
    clear hp hK
    go_simp
    exact hk
  · intro a wu γ nph K hp hK
    have hk := hK.pure (.agg #[.int .i64 0, .int .i64 0, .bool false]) hp.S
    clear hp hK
    go_simp
    exact hk
  · intro a wu γ nph K hp hK
    have hk := hK.pure (.agg #[.int .i64 1, .int .i64 1, .bool true]) hp.S
    clear hp hK
    go_simp
    exact hk
  · intro a wu γ nph K hp hK
    have hk := hK.pure (.agg #[.int .i64 2, .int .i64 2, .bool true]) hp.S
    clear hp hK
    go_simp
    exact hk
  · intro a wu γ nph K hp hK
    have hk := hK.pure (.agg #[.int .i64 3, .int .i64 3, .bool true]) hp.S
    clear hp hK
    go_simp
    exact hk
  · intro a wu γ nph K hp hK
    obtain ⟨e10a, e10b⟩ := hp.dep_ 10 3 (.agg #[.int .i64 0, .int .i64 0, .bool false])
    obtain ⟨e11a, e11b⟩ := hp.dep_ 11 4 (.agg #[.int .i64 1, .int .i64 1, .bool true])
    obtain ⟨e12a, e12b⟩ := hp.dep_ 12 5 (.agg #[.int .i64 2, .int .i64 2, .bool true])
    obtain ⟨e13a, e13b⟩ := hp.dep_ 13 6 (.agg #[.int .i64 3, .int .i64 3, .bool true])
    have hk := hK.new 92 [.int .i64 0, .int .i64 0, .bool false, .int .i64 1, .int .i64 1, .bool true, .int .i64 2, .int .i64 2, .bool true, .int .i64 3, .int .i64 3, .bool true] (fun g => .slice (some ⟨g, 0, none⟩) 4 4)
    clear hp hK
    go_simp
    exact hk
  · intro a wu γ nph K hp hK
    obtain ⟨e7a, e7b⟩ := hp.dep_ 7 0 (.agg #[.iface 59 (.pointer (some p))])
    obtain ⟨e8a, e8b⟩ := hp.dep_ 8 1 (.slice (some ⟨w.heap.size + 1, 0, none⟩) 4 4)
    obtain ⟨e9a, e9b⟩ := hp.dep_ 9 2 (.slice (some ⟨w.heap.size + 1 + 1, 0, none⟩) 4 4)
    obtain ⟨e14a, e14b⟩ := hp.dep_ 14 7 (.slice (some ⟨γ 7, 0, none⟩) 4 4)
    have hS : Sd w6 [w.heap.size + 1 + 1 + 1] CL wu := hp.S
    have c1 := hS.at_ 1 ⟨w.heap.size + 1, 0, none⟩ (.int .i32 (x0).v) (by rw [hCL]; rfl)
    have c2 := hS.at_ 2 ⟨w.heap.size + 1, 1, none⟩ (.int .i32 (x1).v) (by rw [hCL]; rfl)
    have c3 := hS.at_ 3 ⟨w.heap.size + 1, 2, none⟩ (.int .i32 (x2).v) (by rw [hCL]; rfl)
    have c4 := hS.at_ 4 ⟨w.heap.size + 1, 3, none⟩ (.int .i32 (x3).v) (by rw [hCL]; rfl)
    have c5 := hS.at_ 5 ⟨w.heap.size + 1 + 1, 0, none⟩ (.int .i32 (y0).v) (by rw [hCL]; rfl)
    have c6 := hS.at_ 6 ⟨w.heap.size + 1 + 1, 1, none⟩ (.int .i32 (y1).v) (by rw [hCL]; rfl)
    have c7 := hS.at_ 7 ⟨w.heap.size + 1 + 1, 2, none⟩ (.int .i32 (y2).v) (by rw [hCL]; rfl)
    have c8 := hS.at_ 8 ⟨w.heap.size + 1 + 1, 3, none⟩ (.int .i32 (y3).v) (by rw [hCL]; rfl)
    have nb7 : Blk wu (γ 7) 92 [.int .i64 0, .int .i64 0, .bool false, .int .i64 1, .int .i64 1, .bool true, .int .i64 2, .int .i64 2, .bool true, .int .i64 3, .int .i64 3, .bool true] := (hp.blk_ 7 (T := 92) (c := [.int .i64 0, .int .i64 0, .bool false, .int .i64 1, .int .i64 1, .bool true, .int .i64 2, .int .i64 2, .bool true, .int .i64 3, .int .i64 3, .bool true])).1
    have hk := hK.call (.int .i32 (totalW [x0, x1, x2, x3] [y0, y1, y2, y3] ⟨0, 0, false⟩ [⟨1, 1, true⟩, ⟨2, 2, true⟩, ⟨3, 3, true⟩]).v)
    clear hp hK
    go_simp
    refine (wtotal_calls p [x0, x1, x2, x3] [y0, y1, y2, y3] ⟨0, 0, false⟩ [⟨1, 1, true⟩, ⟨2, 2, true⟩, ⟨3, 3, true⟩] _ _ _ _ _ _ _ _ (sl4 c1 c2 c3 c4) (sl4 c5 c6 c7 c8) nb7 (by simp) (show ∀ x ∈ ([⟨0, 0, false⟩, ⟨1, 1, true⟩, ⟨2, 2, true⟩, ⟨3, 3, true⟩] : List Tm), x.a < 4 ∧ x.b < 4 by decide) rfl rfl (by simp) (by simp) (by simp)).mono ?_
    rintro e w7 ⟨rfl, hcX⟩
    exact hk _ (hS.call hcX) (Reg.keep_call _ rfl hcX)
  · intro a wu γ nph K hp hK
    obtain ⟨e3a, e3b⟩ := hp.old_ 3 (.pointer (some ⟨w.heap.size, 0, none⟩))
    have hS : Sd w6 [w.heap.size + 1 + 1 + 1] CL wu := hp.S
    have c0 := hS.at_ 0 ⟨w.heap.size, 0, none⟩ (.iface 59 (.pointer (some p))) (by rw [hCL]; rfl)
    have hk := hK.pure (.agg #[.iface 59 (.pointer (some p))]) hp.S
    clear hp hK hS
    go_simp
    exact hk
  · intro a wu γ nph K hp hK
    obtain ⟨e4a, e4b⟩ := hp.old_ 4 (.pointer (some ⟨w.heap.size + 1, 0, none⟩))
    have hk := hK.pure (.slice (some ⟨w.heap.size + 1, 0, none⟩) 4 4) hp.S
    clear hp hK
    go_simp
    exact hk
  · intro a wu γ nph K hp hK
    obtain ⟨e5a, e5b⟩ := hp.old_ 5 (.pointer (some ⟨w.heap.size + 1 + 1, 0, none⟩))
    have hk := hK.pure (.slice (some ⟨w.heap.size + 1 + 1, 0, none⟩) 4 4) hp.S
    clear hp hK
    go_simp
    exact hk
  · intro a wu γ nph K hp hK
    have hk := hK.pure (.agg #[.int .i64 0, .int .i64 1, .bool false]) hp.S
    clear hp hK
    go_simp
    exact hk
  · intro a wu γ nph K hp hK
    have hk := hK.pure (.agg #[.int .i64 1, .int .i64 0, .bool false]) hp.S
    clear hp hK
    go_simp
    exact hk
  · intro a wu γ nph K hp hK
    have hk := hK.pure (.agg #[.int .i64 2, .int .i64 3, .bool false]) hp.S
    clear hp hK
    go_simp
    exact hk
  · intro a wu γ nph K hp hK
    have hk := hK.pure (.agg #[.int .i64 3, .int .i64 2, .bool true]) hp.S
    clear hp hK
    go_simp
    exact hk
  · intro a wu γ nph K hp hK
    obtain ⟨e19a, e19b⟩ := hp.dep_ 19 12 (.agg #[.int .i64 0, .int .i64 1, .bool false])
    obtain ⟨e20a, e20b⟩ := hp.dep_ 20 13 (.agg #[.int .i64 1, .int .i64 0, .bool false])
    obtain ⟨e21a, e21b⟩ := hp.dep_ 21 14 (.agg #[.int .i64 2, .int .i64 3, .bool false])
    obtain ⟨e22a, e22b⟩ := hp.dep_ 22 15 (.agg #[.int .i64 3, .int .i64 2, .bool true])
    have hk := hK.new 92 [.int .i64 0, .int .i64 1, .bool false, .int .i64 1, .int .i64 0, .bool false, .int .i64 2, .int .i64 3, .bool false, .int .i64 3, .int .i64 2, .bool true] (fun g => .slice (some ⟨g, 0, none⟩) 4 4)
    clear hp hK
    go_simp
    exact hk
  · intro a wu γ nph K hp hK
    obtain ⟨e16a, e16b⟩ := hp.dep_ 16 9 (.agg #[.iface 59 (.pointer (some p))])
    obtain ⟨e17a, e17b⟩ := hp.dep_ 17 10 (.slice (some ⟨w.heap.size + 1, 0, none⟩) 4 4)
    obtain ⟨e18a, e18b⟩ := hp.dep_ 18 11 (.slice (some ⟨w.heap.size + 1 + 1, 0, none⟩) 4 4)
    obtain ⟨e23a, e23b⟩ := hp.dep_ 23 16 (.slice (some ⟨γ 16, 0, none⟩) 4 4)
    have hS : Sd w6 [w.heap.size + 1 + 1 + 1] CL wu := hp.S
    have c1 := hS.at_ 1 ⟨w.heap.size + 1, 0, none⟩ (.int .i32 (x0).v) (by rw [hCL]; rfl)
    have c2 := hS.at_ 2 ⟨w.heap.size + 1, 1, none⟩ (.int .i32 (x1).v) (by rw [hCL]; rfl)
    have c3 := hS.at_ 3 ⟨w.heap.size + 1, 2, none⟩ (.int .i32 (x2).v) (by rw [hCL]; rfl)
    have c4 := hS.at_ 4 ⟨w.heap.size + 1, 3, none⟩ (.int .i32 (x3).v) (by rw [hCL]; rfl)
    have c5 := hS.at_ 5 ⟨w.heap.size + 1 + 1, 0, none⟩ (.int .i32 (y0).v) (by rw [hCL]; rfl)
    have c6 := hS.at_ 6 ⟨w.heap.size + 1 + 1, 1, none⟩ (.int .i32 (y1).v) (by rw [hCL]; rfl)
    have c7 := hS.at_ 7 ⟨w.heap.size + 1 + 1, 2, none⟩ (.int .i32 (y2).v) (by rw [hCL]; rfl)
    have c8 := hS.at_ 8 ⟨w.heap.size + 1 + 1, 3, none⟩ (.int .i32 (y3).v) (by rw [hCL]; rfl)
    have nb16 : Blk wu (γ 16) 92 [.int .i64 0, .int .i64 1, .bool false, .int .i64 1, .int .i64 0, .bool false, .int .i64 2, .int .i64 3, .bool false, .int .i64 3, .int .i64 2, .bool true] := (hp.blk_ 16 (T := 92) (c := [.int .i64 0, .int .i64 1, .bool false, .int .i64 1, .int .i64 0, .bool false, .int .i64 2, .int .i64 3, .bool false, .int .i64 3, .int .i64 2, .bool true])).1
    have hk := hK.call (.int .i32 (totalW [x0, x1, x2, x3] [y0, y1, y2, y3] ⟨0, 1, false⟩ [⟨1, 0, false⟩, ⟨2, 3, false⟩, ⟨3, 2, true⟩]).v)
    clear hp hK
    go_simp
    refine (wtotal_calls p [x0, x1, x2, x3] [y0, y1, y2, y3] ⟨0, 1, false⟩ [⟨1, 0, false⟩, ⟨2, 3, false⟩, ⟨3, 2, true⟩] _ _ _ _ _ _ _ _ (sl4 c1 c2 c3 c4) (sl4 c5 c6 c7 c8) nb16 (by simp) (show ∀ x ∈ ([⟨0, 1, false⟩, ⟨1, 0, false⟩, ⟨2, 3, false⟩, ⟨3, 2, true⟩] : List Tm), x.a < 4 ∧ x.b < 4 by decide) rfl rfl (by simp) (by simp) (by simp)).mono ?_
    rintro e w7 ⟨rfl, hcX⟩
    exact hk _ (hS.call hcX) (Reg.keep_call _ rfl hcX)
  · intro a wu γ nph K hp hK
    obtain ⟨e3a, e3b⟩ := hp.old_ 3 (.pointer (some ⟨w.heap.size, 0, none⟩))
    have hS : Sd w6 [w.heap.size + 1 + 1 + 1] CL wu := hp.S
    have c0 := hS.at_ 0 ⟨w.heap.size, 0, none⟩ (.iface 59 (.pointer (some p))) (by rw [hCL]; rfl)
    have hk := hK.pure (.agg #[.iface 59 (.pointer (some p))]) hp.S
    clear hp hK hS
    go_simp
    exact hk
  · intro a wu γ nph K hp hK
    obtain ⟨e4a, e4b⟩ := hp.old_ 4 (.pointer (some ⟨w.heap.size + 1, 0, none⟩))
    have hk := hK.pure (.slice (some ⟨w.heap.size + 1, 0, none⟩) 4 4) hp.S
    clear hp hK
    go_simp
    exact hk
  · intro a wu γ nph K hp hK
    obtain ⟨e5a, e5b⟩ := hp.old_ 5 (.pointer (some ⟨w.heap.size + 1 + 1, 0, none⟩))
    have hk := hK.pure (.slice (some ⟨w.heap.size + 1 + 1, 0, none⟩) 4 4) hp.S
    clear hp hK
    go_simp
    exact hk
  · intro a wu γ nph K hp hK
    have hk := hK.pure (.agg #[.int .i64 0, .int .i64 2, .bool false]) hp.S
    clear hp hK
    go_simp
    exact hk
  · intro a wu γ nph K hp hK
    have hk := hK.pure (.agg #[.int .i64 1, .int .i64 3, .bool true]) hp.S
    clear hp hK
    go_simp
    exact hk
  · intro a wu γ nph K hp hK
    have hk := hK.pure (.agg #[.int .i64 2, .int .i64 0, .bool false]) hp.S
    clear hp hK
    go_simp
    exact hk
  · intro a wu γ nph K hp hK
    have hk := hK.pure (.agg #[.int .i64 3, .int .i64 1, .bool false]) hp.S
    clear hp hK
    go_simp
    exact hk
  · intro a wu γ nph K hp hK
    obtain ⟨e28a, e28b⟩ := hp.dep_ 28 21 (.agg #[.int .i64 0, .int .i64 2, .bool false])
    obtain ⟨e29a, e29b⟩ := hp.dep_ 29 22 (.agg #[.int .i64 1, .int .i64 3, .bool true])
    obtain ⟨e30a, e30b⟩ := hp.dep_ 30 23 (.agg #[.int .i64 2, .int .i64 0, .bool false])
    obtain ⟨e31a, e31b⟩ := hp.dep_ 31 24 (.agg #[.int .i64 3, .int .i64 1, .bool false])
    have hk := hK.new 92 [.int .i64 0, .int .i64 2, .bool false, .int .i64 1, .int .i64 3, .bool true, .int .i64 2, .int .i64 0, .bool false, .int .i64 3, .int .i64 1, .bool false] (fun g => .slice (some ⟨g, 0, none⟩) 4 4)
    clear hp hK
    go_simp
    exact hk
  · intro a wu γ nph K hp hK
    obtain ⟨e25a, e25b⟩ := hp.dep_ 25 18 (.agg #[.iface 59 (.pointer (some p))])
    obtain ⟨e26a, e26b⟩ := hp.dep_ 26 19 (.slice (some ⟨w.heap.size + 1, 0, none⟩) 4 4)
    obtain ⟨e27a, e27b⟩ := hp.dep_ 27 20 (.slice (some ⟨w.heap.size + 1 + 1, 0, none⟩) 4 4)
    obtain ⟨e32a, e32b⟩ := hp.dep_ 32 25 (.slice (some ⟨γ 25, 0, none⟩) 4 4)
    have hS : Sd w6 [w.heap.size + 1 + 1 + 1] CL wu := hp.S
    have c1 := hS.at_ 1 ⟨w.heap.size + 1, 0, none⟩ (.int .i32 (x0).v) (by rw [hCL]; rfl)
    have c2 := hS.at_ 2 ⟨w.heap.size + 1, 1, none⟩ (.int .i32 (x1).v) (by rw [hCL]; rfl)
    have c3 := hS.at_ 3 ⟨w.heap.size + 1, 2, none⟩ (.int .i32 (x2).v) (by rw [hCL]; rfl)
    have c4 := hS.at_ 4 ⟨w.heap.size + 1, 3, none⟩ (.int .i32 (x3).v) (by rw [hCL]; rfl)
    have c5 := hS.at_ 5 ⟨w.heap.size + 1 + 1, 0, none⟩ (.int .i32 (y0).v) (by rw [hCL]; rfl)
    have c6 := hS.at_ 6 ⟨w.heap.size + 1 + 1, 1, none⟩ (.int .i32 (y1).v) (by rw [hCL]; rfl)
    have c7 := hS.at_ 7 ⟨w.heap.size + 1 + 1, 2, none⟩ (.int .i32 (y2).v) (by rw [hCL]; rfl)
    have c8 := hS.at_ 8 ⟨w.heap.size + 1 + 1, 3, none⟩ (.int .i32 (y3).v) (by rw [hCL]; rfl)
    have nb25 : Blk wu (γ 25) 92 [.int .i64 0, .int .i64 2, .bool false, .int .i64 1, .int .i64 3, .bool true, .int .i64 2, .int .i64 0, .bool false, .int .i64 3, .int .i64 1, .bool false] := (hp.blk_ 25 (T := 92) (c := [.int .i64 0, .int .i64 2, .bool false, .int .i64 1, .int .i64 3, .bool true, .int .i64 2, .int .i64 0, .bool false, .int .i64 3, .int .i64 1, .bool false])).1
    have hk := hK.call (.int .i32 (totalW [x0, x1, x2, x3] [y0, y1, y2, y3] ⟨0, 2, false⟩ [⟨1, 3, true⟩, ⟨2, 0, false⟩, ⟨3, 1, false⟩]).v)
    clear hp hK
    go_simp
    refine (wtotal_calls p [x0, x1, x2, x3] [y0, y1, y2, y3] ⟨0, 2, false⟩ [⟨1, 3, true⟩, ⟨2, 0, false⟩, ⟨3, 1, false⟩] _ _ _ _ _ _ _ _ (sl4 c1 c2 c3 c4) (sl4 c5 c6 c7 c8) nb25 (by simp) (show ∀ x ∈ ([⟨0, 2, false⟩, ⟨1, 3, true⟩, ⟨2, 0, false⟩, ⟨3, 1, false⟩] : List Tm), x.a < 4 ∧ x.b < 4 by decide) rfl rfl (by simp) (by simp) (by simp)).mono ?_
    rintro e w7 ⟨rfl, hcX⟩
    exact hk _ (hS.call hcX) (Reg.keep_call _ rfl hcX)
  · intro a wu γ nph K hp hK
    obtain ⟨e3a, e3b⟩ := hp.old_ 3 (.pointer (some ⟨w.heap.size, 0, none⟩))
    have hS : Sd w6 [w.heap.size + 1 + 1 + 1] CL wu := hp.S
    have c0 := hS.at_ 0 ⟨w.heap.size, 0, none⟩ (.iface 59 (.pointer (some p))) (by rw [hCL]; rfl)
    have hk := hK.pure (.agg #[.iface 59 (.pointer (some p))]) hp.S
    clear hp hK hS
    go_simp
    exact hk
  · intro a wu γ nph K hp hK
    obtain ⟨e4a, e4b⟩ := hp.old_ 4 (.pointer (some ⟨w.heap.size + 1, 0, none⟩))
    have hk := hK.pure (.slice (some ⟨w.heap.size + 1, 0, none⟩) 4 4) hp.S
    clear hp hK
    go_simp
    exact hk
  · intro a wu γ nph K hp hK
    obtain ⟨e5a, e5b⟩ := hp.old_ 5 (.pointer (some ⟨w.heap.size + 1 + 1, 0, none⟩))
    have hk := hK.pure (.slice (some ⟨w.heap.size + 1 + 1, 0, none⟩) 4 4) hp.S
    clear hp hK
    go_simp
    exact hk
  · intro a wu γ nph K hp hK
    have hk := hK.pure (.agg #[.int .i64 0, .int .i64 3, .bool false]) hp.S
    clear hp hK
    go_simp
    exact hk
  · intro a wu γ nph K hp hK
    have hk := hK.pure (.agg #[.int .i64 1, .int .i64 2, .bool false]) hp.S
    clear hp hK
    go_simp
    exact hk
  · intro a wu γ nph K hp hK
    have hk := hK.pure (.agg #[.int .i64 2, .int .i64 1, .bool true]) hp.S
    clear hp hK
    go_simp
    exact hk
  · intro a wu γ nph K hp hK
    have hk := hK.pure (.agg #[.int .i64 3, .int .i64 0, .bool false]) hp.S
    clear hp hK
    go_simp
    exact hk
  · intro a wu γ nph K hp hK
    obtain ⟨e37a, e37b⟩ := hp.dep_ 37 30 (.agg #[.int .i64 0, .int .i64 3, .bool false])
    obtain ⟨e38a, e38b⟩ := hp.dep_ 38 31 (.agg #[.int .i64 1, .int .i64 2, .bool false])
    obtain ⟨e39a, e39b⟩ := hp.dep_ 39 32 (.agg #[.int .i64 2, .int .i64 1, .bool true])
    obtain ⟨e40a, e40b⟩ := hp.dep_ 40 33 (.agg #[.int .i64 3, .int .i64 0, .bool false])
    have hk := hK.new 92 [.int .i64 0, .int .i64 3, .bool false, .int .i64 1, .int .i64 2, .bool false, .int .i64 2, .int .i64 1, .bool true, .int .i64 3, .int .i64 0, .bool false] (fun g => .slice (some ⟨g, 0, none⟩) 4 4)
    clear hp hK
    go_simp
    exact hk
  · intro a wu γ nph K hp hK
    obtain ⟨e34a, e34b⟩ := hp.dep_ 34 27 (.agg #[.iface 59 (.pointer (some p))])
    obtain ⟨e35a, e35b⟩ := hp.dep_ 35 28 (.slice (some ⟨w.heap.size + 1, 0, none⟩) 4 4)
    obtain ⟨e36a, e36b⟩ := hp.dep_ 36 29 (.slice (some ⟨w.heap.size + 1 + 1, 0, none⟩) 4 4)
    obtain ⟨e41a, e41b⟩ := hp.dep_ 41 34 (.slice (some ⟨γ 34, 0, none⟩) 4 4)
    have hS : Sd w6 [w.heap.size + 1 + 1 + 1] CL wu := hp.S
    have c1 := hS.at_ 1 ⟨w.heap.size + 1, 0, none⟩ (.int .i32 (x0).v) (by rw [hCL]; rfl)
    have c2 := hS.at_ 2 ⟨w.heap.size + 1, 1, none⟩ (.int .i32 (x1).v) (by rw [hCL]; rfl)
    have c3 := hS.at_ 3 ⟨w.heap.size + 1, 2, none⟩ (.int .i32 (x2).v) (by rw [hCL]; rfl)
    have c4 := hS.at_ 4 ⟨w.heap.size + 1, 3, none⟩ (.int .i32 (x3).v) (by rw [hCL]; rfl)
    have c5 := hS.at_ 5 ⟨w.heap.size + 1 + 1, 0, none⟩ (.int .i32 (y0).v) (by rw [hCL]; rfl)
    have c6 := hS.at_ 6 ⟨w.heap.size + 1 + 1, 1, none⟩ (.int .i32 (y1).v) (by rw [hCL]; rfl)
    have c7 := hS.at_ 7 ⟨w.heap.size + 1 + 1, 2, none⟩ (.int .i32 (y2).v) (by rw [hCL]; rfl)
    have c8 := hS.at_ 8 ⟨w.heap.size + 1 + 1, 3, none⟩ (.int .i32 (y3).v) (by rw [hCL]; rfl)
    have nb34 : Blk wu (γ 34) 92 [.int .i64 0, .int .i64 3, .bool false, .int .i64 1, .int .i64 2, .bool false, .int .i64 2, .int .i64 1, .bool true, .int .i64 3, .int .i64 0, .bool false] := (hp.blk_ 34 (T := 92) (c := [.int .i64 0, .int .i64 3, .bool false, .int .i64 1, .int .i64 2, .bool false, .int .i64 2, .int .i64 1, .bool true, .int .i64 3, .int .i64 0, .bool false])).1
    have hk := hK.call (.int .i32 (totalW [x0, x1, x2, x3] [y0, y1, y2, y3] ⟨0, 3, false⟩ [⟨1, 2, false⟩, ⟨2, 1, true⟩, ⟨3, 0, false⟩]).v)
    clear hp hK
    go_simp
    refine (wtotal_calls p [x0, x1, x2, x3] [y0, y1, y2, y3] ⟨0, 3, false⟩ [⟨1, 2, false⟩, ⟨2, 1, true⟩, ⟨3, 0, false⟩] _ _ _ _ _ _ _ _ (sl4 c1 c2 c3 c4) (sl4 c5 c6 c7 c8) nb34 (by simp) (show ∀ x ∈ ([⟨0, 3, false⟩, ⟨1, 2, false⟩, ⟨2, 1, true⟩, ⟨3, 0, false⟩] : List Tm), x.a < 4 ∧ x.b < 4 by decide) rfl rfl (by simp) (by simp) (by simp)).mono ?_
    rintro e w7 ⟨rfl, hcX⟩
    exact hk _ (hS.call hcX) (Reg.keep_call _ rfl hcX)
  · intro a wu γ nph K hp hK
    obtain ⟨e15a, e15b⟩ := hp.dep_ 15 8 (.int .i32 (totalW [x0, x1, x2, x3] [y0, y1, y2, y3] ⟨0, 0, false⟩ [⟨1, 1, true⟩, ⟨2, 2, true⟩, ⟨3, 3, true⟩]).v)
    obtain ⟨e24a, e24b⟩ := hp.dep_ 24 17 (.int .i32 (totalW [x0, x1, x2, x3] [y0, y1, y2, y3] ⟨0, 1, false⟩ [⟨1, 0, false⟩, ⟨2, 3, false⟩, ⟨3, 2, true⟩]).v)
    obtain ⟨e33a, e33b⟩ := hp.dep_ 33 26 (.int .i32 (totalW [x0, x1, x2, x3] [y0, y1, y2, y3] ⟨0, 2, false⟩ [⟨1, 3, true⟩, ⟨2, 0, false⟩, ⟨3, 1, false⟩]).v)
    obtain ⟨e42a, e42b⟩ := hp.dep_ 42 35 (.int .i32 (totalW [x0, x1, x2, x3] [y0, y1, y2, y3] ⟨0, 3, false⟩ [⟨1, 2, false⟩, ⟨2, 1, true⟩, ⟨3, 0, false⟩]).v)
    have hk := hK.pure (.agg #[.int .i32 (totalW [x0, x1, x2, x3] [y0, y1, y2, y3] ⟨0, 0, false⟩ [⟨1, 1, true⟩, ⟨2, 2, true⟩, ⟨3, 3, true⟩]).v, .int .i32 (totalW [x0, x1, x2, x3] [y0, y1, y2, y3] ⟨0, 1, false⟩ [⟨1, 0, false⟩, ⟨2, 3, false⟩, ⟨3, 2, true⟩]).v, .int .i32 (totalW [x0, x1, x2, x3] [y0, y1, y2, y3] ⟨0, 2, false⟩ [⟨1, 3, true⟩, ⟨2, 0, false⟩, ⟨3, 1, false⟩]).v, .int .i32 (totalW [x0, x1, x2, x3] [y0, y1, y2, y3] ⟨0, 3, false⟩ [⟨1, 2, false⟩, ⟨2, 1, true⟩, ⟨3, 0, false⟩]).v]) hp.S
    clear hp hK
    go_simp
    exact hk
  · intro a wu γ nph K hp hK
    obtain ⟨e6a, e6b⟩ := hp.old_ 6 (.pointer (some ⟨w.heap.size + 1 + 1 + 1, 0, none⟩))
    obtain ⟨e43a, e43b⟩ := hp.dep_ 43 36 (.agg #[.int .i32 (totalW [x0, x1, x2, x3] [y0, y1, y2, y3] ⟨0, 0, false⟩ [⟨1, 1, true⟩, ⟨2, 2, true⟩, ⟨3, 3, true⟩]).v, .int .i32 (totalW [x0, x1, x2, x3] [y0, y1, y2, y3] ⟨0, 1, false⟩ [⟨1, 0, false⟩, ⟨2, 3, false⟩, ⟨3, 2, true⟩]).v, .int .i32 (totalW [x0, x1, x2, x3] [y0, y1, y2, y3] ⟨0, 2, false⟩ [⟨1, 3, true⟩, ⟨2, 0, false⟩, ⟨3, 1, false⟩]).v, .int .i32 (totalW [x0, x1, x2, x3] [y0, y1, y2, y3] ⟨0, 3, false⟩ [⟨1, 2, false⟩, ⟨2, 1, true⟩, ⟨3, 0, false⟩]).v])
    have hb := (hp.blk_ 38 (T := 27) (c := [.int .i32 0, .int .i32 0, .int .i32 0, .int .i32 0])).1
    have hk := hK.put 38 27 [.int .i32 0, .int .i32 0, .int .i32 0, .int .i32 0] [.int .i32 (totalW [x0, x1, x2, x3] [y0, y1, y2, y3] ⟨0, 0, false⟩ [⟨1, 1, true⟩, ⟨2, 2, true⟩, ⟨3, 3, true⟩]).v, .int .i32 (totalW [x0, x1, x2, x3] [y0, y1, y2, y3] ⟨0, 1, false⟩ [⟨1, 0, false⟩, ⟨2, 3, false⟩, ⟨3, 2, true⟩]).v, .int .i32 (totalW [x0, x1, x2, x3] [y0, y1, y2, y3] ⟨0, 2, false⟩ [⟨1, 3, true⟩, ⟨2, 0, false⟩, ⟨3, 1, false⟩]).v, .int .i32 (totalW [x0, x1, x2, x3] [y0, y1, y2, y3] ⟨0, 3, false⟩ [⟨1, 2, false⟩, ⟨2, 1, true⟩, ⟨3, 0, false⟩]).v]
    have hO : γ 38 = w.heap.size + 1 + 1 + 1 := hp.old 38 (Nat.le_trans (Nat.le_of_eq (by kernel_rfl : _ = 38)) (by decide : 38 ≤ 38))
    rw [hO] at hb hk
    have z0 := hb.cell' (i := 0) rfl
    have f0 := hb.frozen 0
    have z1 := hb.cell' (i := 1) rfl
    have f1 := hb.frozen 1
    have z2 := hb.cell' (i := 2) rfl
    have f2 := hb.frozen 2
    have z3 := hb.cell' (i := 3) rfl
    have f3 := hb.frozen 3
    clear hp hK
    clear hO
    go_simp
    exact hk _ ((((hb.set_ 0 _).set_ 1 _).set_ 2 _).set_ 3 _) (((((Chg.refl wu _).setCell _ _ (.inl (by simp))).setCell _ _ (.inl (by simp))).setCell _ _ (.inl (by simp))).setCell _ _ (.inl (by simp))) (by simp)

set_option maxRecDepth 100000 in
set_option maxHeartbeats 1000000 in
theorem wrate_calls (p : Addr) (x0 x1 x2 x3 y0 y1 y2 : Wd) (w : World) :
    Calls Tryz.prog 87 #[.agg #[.iface 59 (.pointer (some p))], .agg #[.int .i32 x0.v, .int .i32 x1.v, .int .i32 x2.v, .int .i32 x3.v], .agg #[.int .i32 y0.v, .int .i32 y1.v, .int .i32 y2.v]] w fun e w' => e = .returned (.agg #[.int .i32 (rateW x0 x1 x2 x3 y0 y1 y2).a.v, .int .i32 (rateW x0 x1 x2 x3 y0 y1 y2).b.v, .int .i32 (rateW x0 x1 x2 x3 y0 y1 y2).c.v, .int .i32 (rateW x0 x1 x2 x3 y0 y1 y2).d.v]) ∧ Chg w w' [] := by
  have k0 := Blk.new w 40 [.iface 59 (.pointer (some p))]
  have m0 := (((k0.alloc (.cells #[.int .i32 x0.v, .int .i32 x1.v, .int .i32 x2.v, .int .i32 x3.v] 27)).alloc (.cells #[.int .i32 y0.v, .int .i32 y1.v, .int .i32 y2.v] 22)).alloc (.cells #[.int .i32 0, .int .i32 0, .int .i32 0, .int .i32 0] 27))
  have g0_0 := m0.cell' (i := 0) rfl
  have k1 := Blk.new (w.alloc (.cells #[.iface 59 (.pointer (some p))] 40)) 27 [.int .i32 x0.v, .int .i32 x1.v, .int .i32 x2.v, .int .i32 x3.v]
  have m1 := ((k1.alloc (.cells #[.int .i32 y0.v, .int .i32 y1.v, .int .i32 y2.v] 22)).alloc (.cells #[.int .i32 0, .int .i32 0, .int .i32 0, .int .i32 0] 27))
  simp only [size_alloc] at m1
  have g1_0 := m1.cell' (i := 0) rfl
  have g1_1 := m1.cell' (i := 1) rfl
  have g1_2 := m1.cell' (i := 2) rfl
  have g1_3 := m1.cell' (i := 3) rfl
  have k2 := Blk.new ((w.alloc (.cells #[.iface 59 (.pointer (some p))] 40)).alloc (.cells #[.int .i32 x0.v, .int .i32 x1.v, .int .i32 x2.v, .int .i32 x3.v] 27)) 22 [.int .i32 y0.v, .int .i32 y1.v, .int .i32 y2.v]
  have m2 := (k2.alloc (.cells #[.int .i32 0, .int .i32 0, .int .i32 0, .int .i32 0] 27))
  simp only [size_alloc] at m2
  have g2_0 := m2.cell' (i := 0) rfl
  have g2_1 := m2.cell' (i := 1) rfl
  have g2_2 := m2.cell' (i := 2) rfl
  have k3 := Blk.new (((w.alloc (.cells #[.iface 59 (.pointer (some p))] 40)).alloc (.cells #[.int .i32 x0.v, .int .i32 x1.v, .int .i32 x2.v, .int .i32 x3.v] 27)).alloc (.cells #[.int .i32 y0.v, .int .i32 y1.v, .int .i32 y2.v] 22)) 27 [.int .i32 0, .int .i32 0, .int .i32 0, .int .i32 0]
  have m3 := k3
  simp only [size_alloc] at m3
  have g3_0 := m3.cell' (i := 0) rfl
  have g3_1 := m3.cell' (i := 1) rfl
  have g3_2 := m3.cell' (i := 2) rfl
  have g3_3 := m3.cell' (i := 3) rfl
  have HC := hide (((((Chg.refl w []).alloc (.cells #[.iface 59 (.pointer (some p))] 40)).alloc (.cells #[.int .i32 x0.v, .int .i32 x1.v, .int .i32 x2.v, .int .i32 x3.v] 27)).alloc (.cells #[.int .i32 y0.v, .int .i32 y1.v, .int .i32 y2.v] 22)).alloc (.cells #[.int .i32 0, .int .i32 0, .int .i32 0, .int .i32 0] 27))
  clear k0 k1 k2 k3
  go_enter Tryz.func87, Tryz.ntmps87
  go_wp2_with fail
  generalize ((((w.alloc (.cells #[.iface 59 (.pointer (some p))] 40)).alloc (.cells #[.int .i32 x0.v, .int .i32 x1.v, .int .i32 x2.v, .int .i32 x3.v] 27)).alloc (.cells #[.int .i32 y0.v, .int .i32 y1.v, .int .i32 y2.v] 22)).alloc (.cells #[.int .i32 0, .int .i32 0, .int .i32 0, .int .i32 0] 27)) = w6 at *
  obtain ⟨CL, hCL⟩ : ∃ l : List (Addr × Value), l = [(⟨w.heap.size, 0, none⟩, .iface 59 (.pointer (some p))), (⟨w.heap.size + 1, 0, none⟩, .int .i32 (x0).v), (⟨w.heap.size + 1, 1, none⟩, .int .i32 (x1).v), (⟨w.heap.size + 1, 2, none⟩, .int .i32 (x2).v), (⟨w.heap.size + 1, 3, none⟩, .int .i32 (x3).v), (⟨w.heap.size + 1 + 1, 0, none⟩, .int .i32 (y0).v), (⟨w.heap.size + 1 + 1, 1, none⟩, .int .i32 (y1).v), (⟨w.heap.size + 1 + 1, 2, none⟩, .int .i32 (y2).v)] := ⟨_, rfl⟩
  have HS0 : Sd w6 [w.heap.size + 1 + 1 + 1] CL w6.drew := ⟨(Chg.refl w6 _).drew, by rw [hCL]; simp only [List.forall_mem_cons]; exact ⟨g0_0, g1_0, g1_1, g1_2, g1_3, g2_0, g2_1, g2_2, by simp⟩⟩
  have hU0 : ∀ p ∈ CL, p.1.block ∈ ([w.heap.size, w.heap.size + 1, w.heap.size + 1 + 1] : List Nat) := by rw [hCL]; simp only [List.forall_mem_cons]; exact ⟨by simp, by simp, by simp, by simp, by simp, by simp, by simp, by simp, by simp⟩
  have hlt0 : ∀ u ∈ ([w.heap.size, w.heap.size + 1, w.heap.size + 1 + 1] : List Nat), u < w6.heap.size := by simp only [List.forall_mem_cons]; exact ⟨World.block_lt_of_cell? _ _ g0_0, World.block_lt_of_cell? _ _ g1_0, World.block_lt_of_cell? _ _ g2_0, by simp⟩
  refine Reg.wp_region (Reg.of 34 _ _ [.agg #[.iface 59 (.pointer (some p))], .slice (some ⟨w.heap.size + 1, 0, none⟩) 4 4, .slice (some ⟨w.heap.size + 1 + 1, 0, none⟩) 3 3, .agg #[.int .i64 1, .int .i64 0, .bool true], .agg #[.int .i64 2, .int .i64 1, .bool true], .agg #[.int .i64 3, .int .i64 2, .bool true], undef, .int .i32 (totalW [x0, x1, x2, x3] [y0, y1, y2] ⟨1, 0, true⟩ [⟨2, 1, true⟩, ⟨3, 2, true⟩]).v, .agg #[.iface 59 (.pointer (some p))], .slice (some ⟨w.heap.size + 1, 0, none⟩) 4 4, .slice (some ⟨w.heap.size + 1 + 1, 0, none⟩) 3 3, .agg #[.int .i64 0, .int .i64 0, .bool false], .agg #[.int .i64 2, .int .i64 2, .bool false], .agg #[.int .i64 3, .int .i64 1, .bool true], undef, .int .i32 (totalW [x0, x1, x2, x3] [y0, y1, y2] ⟨0, 0, false⟩ [⟨2, 2, false⟩, ⟨3, 1, true⟩]).v, .agg #[.iface 59 (.pointer (some p))], .slice (some ⟨w.heap.size + 1, 0, none⟩) 4 4, .slice (some ⟨w.heap.size + 1 + 1, 0, none⟩) 3 3, .agg #[.int .i64 0, .int .i64 1, .bool false], .agg #[.int .i64 1, .int .i64 2, .bool true], .agg #[.int .i64 3, .int .i64 0, .bool false], undef, .int .i32 (totalW [x0, x1, x2, x3] [y0, y1, y2] ⟨0, 1, false⟩ [⟨1, 2, true⟩, ⟨3, 0, false⟩]).v, .agg #[.iface 59 (.pointer (some p))], .slice (some ⟨w.heap.size + 1, 0, none⟩) 4 4, .slice (some ⟨w.heap.size + 1 + 1, 0, none⟩) 3 3, .agg #[.int .i64 0, .int .i64 2, .bool false], .agg #[.int .i64 1, .int .i64 1, .bool false], .agg #[.int .i64 2, .int .i64 0, .bool true], undef, .int .i32 (totalW [x0, x1, x2, x3] [y0, y1, y2] ⟨0, 2, false⟩ [⟨1, 1, false⟩, ⟨2, 0, true⟩]).v, .agg #[.int .i32 (totalW [x0, x1, x2, x3] [y0, y1, y2] ⟨1, 0, true⟩ [⟨2, 1, true⟩, ⟨3, 2, true⟩]).v, .int .i32 (totalW [x0, x1, x2, x3] [y0, y1, y2] ⟨0, 0, false⟩ [⟨2, 2, false⟩, ⟨3, 1, true⟩]).v, .int .i32 (totalW [x0, x1, x2, x3] [y0, y1, y2] ⟨0, 1, false⟩ [⟨1, 2, true⟩, ⟨3, 0, false⟩]).v, .int .i32 (totalW [x0, x1, x2, x3] [y0, y1, y2] ⟨0, 2, false⟩ [⟨1, 1, false⟩, ⟨2, 0, true⟩]).v], undef] [fun _ => undef, fun _ => undef, fun _ => undef, fun _ => undef, fun _ => undef, fun _ => undef, fun g => .slice (some ⟨g, 0, none⟩) 3 3, fun _ => undef, fun _ => undef, fun _ => undef, fun _ => undef, fun _ => undef, fun _ => undef, fun _ => undef, fun g => .slice (some ⟨g, 0, none⟩) 3 3, fun _ => undef, fun _ => undef, fun _ => undef, fun _ => undef, fun _ => undef, fun _ => undef, fun _ => undef, fun g => .slice (some ⟨g, 0, none⟩) 3 3, fun _ => undef, fun _ => undef, fun _ => undef, fun _ => undef, fun _ => undef, fun _ => undef, fun _ => undef, fun g => .slice (some ⟨g, 0, none⟩) 3 3, fun _ => undef, fun _ => undef, fun _ => undef] [.val, .val, .val, .val, .val, .val, .new 92 [.int .i64 1, .int .i64 0, .bool true, .int .i64 2, .int .i64 1, .bool true, .int .i64 3, .int .i64 2, .bool true], .val, .val, .val, .val, .val, .val, .val, .new 92 [.int .i64 0, .int .i64 0, .bool false, .int .i64 2, .int .i64 2, .bool false, .int .i64 3, .int .i64 1, .bool true], .val, .val, .val, .val, .val, .val, .val, .new 92 [.int .i64 0, .int .i64 1, .bool false, .int .i64 1, .int .i64 2, .bool true, .int .i64 3, .int .i64 0, .bool false], .val, .val, .val, .val, .val, .val, .val, .new 92 [.int .i64 0, .int .i64 2, .bool false, .int .i64 1, .int .i64 1, .bool false, .int .i64 2, .int .i64 0, .bool true], .val, .val, .put 34 [.int .i32 (totalW [x0, x1, x2, x3] [y0, y1, y2] ⟨1, 0, true⟩ [⟨2, 1, true⟩, ⟨3, 2, true⟩]).v, .int .i32 (totalW [x0, x1, x2, x3] [y0, y1, y2] ⟨0, 0, false⟩ [⟨2, 2, false⟩, ⟨3, 1, true⟩]).v, .int .i32 (totalW [x0, x1, x2, x3] [y0, y1, y2] ⟨0, 1, false⟩ [⟨1, 2, true⟩, ⟨3, 0, false⟩]).v, .int .i32 (totalW [x0, x1, x2, x3] [y0, y1, y2] ⟨0, 2, false⟩ [⟨1, 1, false⟩, ⟨2, 0, true⟩]).v]] [(27, [.int .i32 0, .int .i32 0, .int .i32 0, .int .i32 0])] [w.heap.size + 1 + 1 + 1] [] (fun _ => Sd w6 [w.heap.size + 1 + 1 + 1] CL) (Fd w6 [w.heap.size + 1 + 1 + 1] [w.heap.size, w.heap.size + 1, w.heap.size + 1 + 1])) (Reg.good_of _ 40 (by kernel_rfl) (by kernel_rfl)) (stands_d _ w6 [w.heap.size + 1 + 1 + 1] [w.heap.size, w.heap.size + 1, w.heap.size + 1 + 1] CL rfl rfl rfl hU0 hlt0) (by kernel_rfl) HS0 (hold_of (by kernel_rfl) ?holdwz) (ne_of (by kernel_rfl) ?hnewz) (Reg.steps_of _ rfl ⟨?_, ?_, ?_, ?_, ?_, ?_, ?_, ?_, ?_, ?_, ?_, ?_, ?_, ?_, ?_, ?_, ?_, ?_, ?_, ?_, ?_, ?_, ?_, ?_, ?_, ?_, ?_, ?_, ?_, ?_, ?_, ?_, ?_, ?_, trivial⟩) ?hendwz
  case holdwz =>
    intro k T c hk
    cases k with
    | zero => simp only [List.getElem?_cons_zero, Option.some.injEq, Prod.mk.injEq] at hk; obtain ⟨rfl, rfl⟩ := hk; exact ⟨m3, ⟨by simp; try omega, .inl (by simp)⟩⟩
    | succ k =>
      simp at hk
  case hnewz => intro i j hi hj hne; simp at hi hj; omega
  case hendwz =>
    intro wz γ hSz hBz hnez hOz
    replace hSz : Sd w6 [w.heap.size + 1 + 1 + 1] CL wz := hSz
    have nb6 : Blk wz (γ 6) 92 [.int .i64 1, .int .i64 0, .bool true, .int .i64 2, .int .i64 1, .bool true, .int .i64 3, .int .i64 2, .bool true] := (hBz 6 92 [.int .i64 1, .int .i64 0, .bool true, .int .i64 2, .int .i64 1, .bool true, .int .i64 3, .int .i64 2, .bool true] (by kernel_rfl) [.int .i64 1, .int .i64 0, .bool true, .int .i64 2, .int .i64 1, .bool true, .int .i64 3, .int .i64 2, .bool true] (by kernel_rfl)).1
    have nf6 : Fd w6 [w.heap.size + 1 + 1 + 1] [w.heap.size, w.heap.size + 1, w.heap.size + 1 + 1] wz (γ 6) := (hBz 6 92 [.int .i64 1, .int .i64 0, .bool true, .int .i64 2, .int .i64 1, .bool true, .int .i64 3, .int .i64 2, .bool true] (by kernel_rfl) [.int .i64 1, .int .i64 0, .bool true, .int .i64 2, .int .i64 1, .bool true, .int .i64 3, .int .i64 2, .bool true] (by kernel_rfl)).2.1
    have nb14 : Blk wz (γ 14) 92 [.int .i64 0, .int .i64 0, .bool false, .int .i64 2, .int .i64 2, .bool false, .int .i64 3, .int .i64 1, .bool true] := (hBz 14 92 [.int .i64 0, .int .i64 0, .bool false, .int .i64 2, .int .i64 2, .bool false, .int .i64 3, .int .i64 1, .bool true] (by kernel_rfl) [.int .i64 0, .int .i64 0, .bool false, .int .i64 2, .int .i64 2, .bool false, .int .i64 3, .int .i64 1, .bool true] (by kernel_rfl)).1
    have nf14 : Fd w6 [w.heap.size + 1 + 1 + 1] [w.heap.size, w.heap.size + 1, w.heap.size + 1 + 1] wz (γ 14) := (hBz 14 92 [.int .i64 0, .int .i64 0, .bool false, .int .i64 2, .int .i64 2, .bool false, .int .i64 3, .int .i64 1, .bool true] (by kernel_rfl) [.int .i64 0, .int .i64 0, .bool false, .int .i64 2, .int .i64 2, .bool false, .int .i64 3, .int .i64 1, .bool true] (by kernel_rfl)).2.1
    have nb22 : Blk wz (γ 22) 92 [.int .i64 0, .int .i64 1, .bool false, .int .i64 1, .int .i64 2, .bool true, .int .i64 3, .int .i64 0, .bool false] := (hBz 22 92 [.int .i64 0, .int .i64 1, .bool false, .int .i64 1, .int .i64 2, .bool true, .int .i64 3, .int .i64 0, .bool false] (by kernel_rfl) [.int .i64 0, .int .i64 1, .bool false, .int .i64 1, .int .i64 2, .bool true, .int .i64 3, .int .i64 0, .bool false] (by kernel_rfl)).1
    have nf22 : Fd w6 [w.heap.size + 1 + 1 + 1] [w.heap.size, w.heap.size + 1, w.heap.size + 1 + 1] wz (γ 22) := (hBz 22 92 [.int .i64 0, .int .i64 1, .bool false, .int .i64 1, .int .i64 2, .bool true, .int .i64 3, .int .i64 0, .bool false] (by kernel_rfl) [.int .i64 0, .int .i64 1, .bool false, .int .i64 1, .int .i64 2, .bool true, .int .i64 3, .int .i64 0, .bool false] (by kernel_rfl)).2.1
    have nb30 : Blk wz (γ 30) 92 [.int .i64 0, .int .i64 2, .bool false, .int .i64 1, .int .i64 1, .bool false, .int .i64 2, .int .i64 0, .bool true] := (hBz 30 92 [.int .i64 0, .int .i64 2, .bool false, .int .i64 1, .int .i64 1, .bool false, .int .i64 2, .int .i64 0, .bool true] (by kernel_rfl) [.int .i64 0, .int .i64 2, .bool false, .int .i64 1, .int .i64 1, .bool false, .int .i64 2, .int .i64 0, .bool true] (by kernel_rfl)).1
    have nf30 : Fd w6 [w.heap.size + 1 + 1 + 1] [w.heap.size, w.heap.size + 1, w.heap.size + 1 + 1] wz (γ 30) := (hBz 30 92 [.int .i64 0, .int .i64 2, .bool false, .int .i64 1, .int .i64 1, .bool false, .int .i64 2, .int .i64 0, .bool true] (by kernel_rfl) [.int .i64 0, .int .i64 2, .bool false, .int .i64 1, .int .i64 1, .bool false, .int .i64 2, .int .i64 0, .bool true] (by kernel_rfl)).2.1
    have ob0 : Blk wz (w.heap.size + 1 + 1 + 1) 27 [.int .i32 (totalW [x0, x1, x2, x3] [y0, y1, y2] ⟨1, 0, true⟩ [⟨2, 1, true⟩, ⟨3, 2, true⟩]).v, .int .i32 (totalW [x0, x1, x2, x3] [y0, y1, y2] ⟨0, 0, false⟩ [⟨2, 2, false⟩, ⟨3, 1, true⟩]).v, .int .i32 (totalW [x0, x1, x2, x3] [y0, y1, y2] ⟨0, 1, false⟩ [⟨1, 2, true⟩, ⟨3, 0, false⟩]).v, .int .i32 (totalW [x0, x1, x2, x3] [y0, y1, y2] ⟨0, 2, false⟩ [⟨1, 1, false⟩, ⟨2, 0, true⟩]).v] := by have h := (hBz 34 27 [.int .i32 0, .int .i32 0, .int .i32 0, .int .i32 0] (by kernel_rfl) [.int .i32 (totalW [x0, x1, x2, x3] [y0, y1, y2] ⟨1, 0, true⟩ [⟨2, 1, true⟩, ⟨3, 2, true⟩]).v, .int .i32 (totalW [x0, x1, x2, x3] [y0, y1, y2] ⟨0, 0, false⟩ [⟨2, 2, false⟩, ⟨3, 1, true⟩]).v, .int .i32 (totalW [x0, x1, x2, x3] [y0, y1, y2] ⟨0, 1, false⟩ [⟨1, 2, true⟩, ⟨3, 0, false⟩]).v, .int .i32 (totalW [x0, x1, x2, x3] [y0, y1, y2] ⟨0, 2, false⟩ [⟨1, 1, false⟩, ⟨2, 0, true⟩]).v] (by kernel_rfl)).1; rw [hOz 34 (Nat.le_trans (Nat.le_of_eq (by kernel_rfl : _ = 34)) (by decide : 34 ≤ 34))] at h; exact h
    refine end_of [(7, .agg #[.iface 59 (.pointer (some p))]), (8, .slice (some ⟨w.heap.size + 1, 0, none⟩) 4 4), (9, .slice (some ⟨w.heap.size + 1 + 1, 0, none⟩) 3 3), (10, .agg #[.int .i64 1, .int .i64 0, .bool true]), (11, .agg #[.int .i64 2, .int .i64 1, .bool true]), (12, .agg #[.int .i64 3, .int .i64 2, .bool true]), (13, .slice (some ⟨γ 6, 0, none⟩) 3 3), (14, .int .i32 (totalW [x0, x1, x2, x3] [y0, y1, y2] ⟨1, 0, true⟩ [⟨2, 1, true⟩, ⟨3, 2, true⟩]).v), (15, .agg #[.iface 59 (.pointer (some p))]), (16, .slice (some ⟨w.heap.size + 1, 0, none⟩) 4 4), (17, .slice (some ⟨w.heap.size + 1 + 1, 0, none⟩) 3 3), (18, .agg #[.int .i64 0, .int .i64 0, .bool false]), (19, .agg #[.int .i64 2, .int .i64 2, .bool false]), (20, .agg #[.int .i64 3, .int .i64 1, .bool true]), (21, .slice (some ⟨γ 14, 0, none⟩) 3 3), (22, .int .i32 (totalW [x0, x1, x2, x3] [y0, y1, y2] ⟨0, 0, false⟩ [⟨2, 2, false⟩, ⟨3, 1, true⟩]).v), (23, .agg #[.iface 59 (.pointer (some p))]), (24, .slice (some ⟨w.heap.size + 1, 0, none⟩) 4 4), (25, .slice (some ⟨w.heap.size + 1 + 1, 0, none⟩) 3 3), (26, .agg #[.int .i64 0, .int .i64 1, .bool false]), (27, .agg #[.int .i64 1, .int .i64 2, .bool true]), (28, .agg #[.int .i64 3, .int .i64 0, .bool false]), (29, .slice (some ⟨γ 22, 0, none⟩) 3 3), (30, .int .i32 (totalW [x0, x1, x2, x3] [y0, y1, y2] ⟨0, 1, false⟩ [⟨1, 2, true⟩, ⟨3, 0, false⟩]).v), (31, .agg #[.iface 59 (.pointer (some p))]), (32, .slice (some ⟨w.heap.size + 1, 0, none⟩) 4 4), (33, .slice (some ⟨w.heap.size + 1 + 1, 0, none⟩) 3 3), (34, .agg #[.int .i64 0, .int .i64 2, .bool false]), (35, .agg #[.int .i64 1, .int .i64 1, .bool false]), (36, .agg #[.int .i64 2, .int .i64 0, .bool true]), (37, .slice (some ⟨γ 30, 0, none⟩) 3 3), (38, .int .i32 (totalW [x0, x1, x2, x3] [y0, y1, y2] ⟨0, 2, false⟩ [⟨1, 1, false⟩, ⟨2, 0, true⟩]).v), (39, .agg #[.int .i32 (totalW [x0, x1, x2, x3] [y0, y1, y2] ⟨1, 0, true⟩ [⟨2, 1, true⟩, ⟨3, 2, true⟩]).v, .int .i32 (totalW [x0, x1, x2, x3] [y0, y1, y2] ⟨0, 0, false⟩ [⟨2, 2, false⟩, ⟨3, 1, true⟩]).v, .int .i32 (totalW [x0, x1, x2, x3] [y0, y1, y2] ⟨0, 1, false⟩ [⟨1, 2, true⟩, ⟨3, 0, false⟩]).v, .int .i32 (totalW [x0, x1, x2, x3] [y0, y1, y2] ⟨0, 2, false⟩ [⟨1, 1, false⟩, ⟨2, 0, true⟩]).v])] (by kernel_rfl) ?_
    clear hBz hnez hOz HS0 hU0
    simp only [Reg.of, List.foldl_cons, List.foldl_nil, List.setIfInBounds_toArray, List.set_cons_zero, List.set_cons_succ]
    generalize γ 6 = b6 at *
    generalize γ 14 = b14 at *
    generalize γ 22 = b22 at *
    generalize γ 30 = b30 at *
    have q0 := ob0.cell' (i := 0) rfl
    have q1 := ob0.cell' (i := 1) rfl
    have q2 := ob0.cell' (i := 2) rfl
    have q3 := ob0.cell' (i := 3) rfl
    have HZ := hide hSz.chg
    clear hSz
    go_wp2
    refine bodyPost_ret (v := .agg #[.int .i32 (rateW x0 x1 x2 x3 y0 y1 y2).a.v, .int .i32 (rateW x0 x1 x2 x3 y0 y1 y2).b.v, .int .i32 (rateW x0 x1 x2 x3 y0 y1 y2).c.v, .int .i32 (rateW x0 x1 x2 x3 y0 y1 y2).d.v]) (by simp [results, Tryz.f87, go_sem, q0, q1, q2, q3]; exact ⟨rfl, rfl, rfl, rfl⟩) rfl ⟨rfl, HC.out.trans HZ.out (by simp; try omega)⟩
  · intro a wu γ nph K hp hK
    obtain ⟨e3a, e3b⟩ := hp.old_ 3 (.pointer (some ⟨w.heap.size, 0, none⟩))
    have hS : Sd w6 [w.heap.size + 1 + 1 + 1] CL wu := hp.S
    have c0 := hS.at_ 0 ⟨w.heap.size, 0, none⟩ (.iface 59 (.pointer (some p))) (by rw [hCL]; rfl)
    have hk := hK.pure (.agg #[.iface 59 (.pointer (some p))]) hp.S
    clear hp hK hS
    go_simp
    exact hk
  · intro a wu γ nph K hp hK
    obtain ⟨e4a, e4b⟩ := hp.old_ 4 (.pointer (some ⟨w.heap.size + 1, 0, none⟩))
    have hk := hK.pure (.slice (some ⟨w.heap.size + 1, 0, none⟩) 4 4) hp.S
    clear hp hK
    go_simp
    exact hk
  · intro a wu γ nph K hp hK
    obtain ⟨e5a, e5b⟩ := hp.old_ 5 (.pointer (some ⟨w.heap.size + 1 + 1, 0, none⟩))
    have hk := hK.pure (.slice (some ⟨w.heap.size + 1 + 1, 0, none⟩) 3 3) hp.S
    clear hp hK
    go_simp
    exact hk
  · intro a wu γ nph K hp hK
    have hk := hK.pure (.agg #[.int .i64 1, .int .i64 0, .bool true]) hp.S
    clear hp hK
    go_simp
    exact hk
  · intro a wu γ nph K hp hK
    have hk := hK.pure (.agg #[.int .i64 2, .int .i64 1, .bool true]) hp.S
    clear hp hK
    go_simp
    exact hk
  · intro a wu γ nph K hp hK
    have hk := hK.pure (.agg #[.int .i64 3, .int .i64 2, .bool true]) hp.S
    clear hp hK
    go_simp
    exact hk
  · intro a wu γ nph K hp hK
    obtain ⟨e10a, e10b⟩ := hp.dep_ 10 3 (.agg #[.int .i64 1, .int .i64 0, .bool true])
    obtain ⟨e11a, e11b⟩ := hp.dep_ 11 4 (.agg #[.int .i64 2, .int .i64 1, .bool true])
    obtain ⟨e12a, e12b⟩ := hp.dep_ 12 5 (.agg #[.int .i64 3, .int .i64 2, .bool true])
    have hk := hK.new 92 [.int .i64 1, .int .i64 0, .bool true, .int .i64 2, .int .i64 1, .bool true, .int .i64 3, .int .i64 2, .bool true] (fun g => .slice (some ⟨g, 0, none⟩) 3 3)
    clear hp hK
    go_simp
    exact hk
  · intro a wu γ nph K hp hK
    obtain ⟨e7a, e7b⟩ := hp.dep_ 7 0 (.agg #[.iface 59 (.pointer (some p))])
    obtain ⟨e8a, e8b⟩ := hp.dep_ 8 1 (.slice (some ⟨w.heap.size + 1, 0, none⟩) 4 4)
    obtain ⟨e9a, e9b⟩ := hp.dep_ 9 2 (.slice (some ⟨w.heap.size + 1 + 1, 0, none⟩) 3 3)
    obtain ⟨e13a, e13b⟩ := hp.dep_ 13 6 (.slice (some ⟨γ 6, 0, none⟩) 3 3)
    have hS : Sd w6 [w.heap.size + 1 + 1 + 1] CL wu := hp.S
    have c1 := hS.at_ 1 ⟨w.heap.size + 1, 0, none⟩ (.int .i32 (x0).v) (by rw [hCL]; rfl)
    have c2 := hS.at_ 2 ⟨w.heap.size + 1, 1, none⟩ (.int .i32 (x1).v) (by rw [hCL]; rfl)
    have c3 := hS.at_ 3 ⟨w.heap.size + 1, 2, none⟩ (.int .i32 (x2).v) (by rw [hCL]; rfl)
    have c4 := hS.at_ 4 ⟨w.heap.size + 1, 3, none⟩ (.int .i32 (x3).v) (by rw [hCL]; rfl)
    have c5 := hS.at_ 5 ⟨w.heap.size + 1 + 1, 0, none⟩ (.int .i32 (y0).v) (by rw [hCL]; rfl)
    have c6 := hS.at_ 6 ⟨w.heap.size + 1 + 1, 1, none⟩ (.int .i32 (y1).v) (by rw [hCL]; rfl)
    have c7 := hS.at_ 7 ⟨w.heap.size + 1 + 1, 2, none⟩ (.int .i32 (y2).v) (by rw [hCL]; rfl)
    have nb6 : Blk wu (γ 6) 92 [.int .i64 1, .int .i64 0, .bool true, .int .i64 2, .int .i64 1, .bool true, .int .i64 3, .int .i64 2, .bool true] := (hp.blk_ 6 (T := 92) (c := [.int .i64 1, .int .i64 0, .bool true, .int .i64 2, .int .i64 1, .bool true, .int .i64 3, .int .i64 2, .bool true])).1
    have hk := hK.call (.int .i32 (totalW [x0, x1, x2, x3] [y0, y1, y2] ⟨1, 0, true⟩ [⟨2, 1, true⟩, ⟨3, 2, true⟩]).v)
    clear hp hK
    go_simp
    refine (wtotal_calls p [x0, x1, x2, x3] [y0, y1, y2] ⟨1, 0, true⟩ [⟨2, 1, true⟩, ⟨3, 2, true⟩] _ _ _ _ _ _ _ _ (sl4 c1 c2 c3 c4) (sl3 c5 c6 c7) nb6 (by simp) (show ∀ x ∈ ([⟨1, 0, true⟩, ⟨2, 1, true⟩, ⟨3, 2, true⟩] : List Tm), x.a < 4 ∧ x.b < 3 by decide) rfl rfl (by simp) (by simp) (by simp)).mono ?_
    rintro e w7 ⟨rfl, hcX⟩
    exact hk _ (hS.call hcX) (Reg.keep_call _ rfl hcX)
  · intro a wu γ nph K hp hK
    obtain ⟨e3a, e3b⟩ := hp.old_ 3 (.pointer (some ⟨w.heap.size, 0, none⟩))
    have hS : Sd w6 [w.heap.size + 1 + 1 + 1] CL wu := hp.S
    have c0 := hS.at_ 0 ⟨w.heap.size, 0, none⟩ (.iface 59 (.pointer (some p))) (by rw [hCL]; rfl)
    have hk := hK.pure (.agg #[.iface 59 (.pointer (some p))]) hp.S
    clear hp hK hS
    go_simp
    exact hk
  · intro a wu γ nph K hp hK
    obtain ⟨e4a, e4b⟩ := hp.old_ 4 (.pointer (some ⟨w.heap.size + 1, 0, none⟩))
    have hk := hK.pure (.slice (some ⟨w.heap.size + 1, 0, none⟩) 4 4) hp.S
    clear hp hK
    go_simp
    exact hk
  · intro a wu γ nph K hp hK
    obtain ⟨e5a, e5b⟩ := hp.old_ 5 (.pointer (some ⟨w.heap.size + 1 + 1, 0, none⟩))
    have hk := hK.pure (.slice (some ⟨w.heap.size + 1 + 1, 0, none⟩) 3 3) hp.S
    clear hp hK
    go_simp
    exact hk
  · intro a wu γ nph K hp hK
    have hk := hK.pure (.agg #[.int .i64 0, .int .i64 0, .bool false]) hp.S
    clear hp hK
    go_simp
    exact hk
  · intro a wu γ nph K hp hK
    have hk := hK.pure (.agg #[.int .i64 2, .int .i64 2, .bool false]) hp.S
    clear hp hK
    go_simp
    exact hk
  · intro a wu γ nph K hp hK
    have hk := hK.pure (.agg #[.int .i64 3, .int .i64 1, .bool true]) hp.S
    clear hp hK
    go_simp
    exact hk
  · intro a wu γ nph K hp hK
    obtain ⟨e18a, e18b⟩ := hp.dep_ 18 11 (.agg #[.int .i64 0, .int .i64 0, .bool false])
    obtain ⟨e19a, e19b⟩ := hp.dep_ 19 12 (.agg #[.int .i64 2, .int .i64 2, .bool false])
    obtain ⟨e20a, e20b⟩ := hp.dep_ 20 13 (.agg #[.int .i64 3, .int .i64 1, .bool true])
    have hk := hK.new 92 [.int .i64 0, .int .i64 0, .bool false, .int .i64 2, .int .i64 2, .bool false, .int .i64 3, .int .i64 1, .bool true] (fun g => .slice (some ⟨g, 0, none⟩) 3 3)
    clear hp hK
    go_simp
    exact hk
  · intro a wu γ nph K hp hK
    obtain ⟨e15a, e15b⟩ := hp.dep_ 15 8 (.agg #[.iface 59 (.pointer (some p))])
    obtain ⟨e16a, e16b⟩ := hp.dep_ 16 9 (.slice (some ⟨w.heap.size + 1, 0, none⟩) 4 4)
    obtain ⟨e17a, e17b⟩ := hp.dep_ 17 10 (.slice (some ⟨w.heap.size + 1 + 1, 0, none⟩) 3 3)
    obtain ⟨e21a, e21b⟩ := hp.dep_ 21 14 (.slice (some ⟨γ 14, 0, none⟩) 3 3)
    have hS : Sd w6 [w.heap.size + 1 + 1 + 1] CL wu := hp.S
    have c1 := hS.at_ 1 ⟨w.heap.size + 1, 0, none⟩ (.int .i32 (x0).v) (by rw [hCL]; rfl)
    have c2 := hS.at_ 2 ⟨w.heap.size + 1, 1, none⟩ (.int .i32 (x1).v) (by rw [hCL]; rfl)
    have c3 := hS.at_ 3 ⟨w.heap.size + 1, 2, none⟩ (.int .i32 (x2).v) (by rw [hCL]; rfl)
    have c4 := hS.at_ 4 ⟨w.heap.size + 1, 3, none⟩ (.int .i32 (x3).v) (by rw [hCL]; rfl)
    have c5 := hS.at_ 5 ⟨w.heap.size + 1 + 1, 0, none⟩ (.int .i32 (y0).v) (by rw [hCL]; rfl)
    have c6 := hS.at_ 6 ⟨w.heap.size + 1 + 1, 1, none⟩ (.int .i32 (y1).v) (by rw [hCL]; rfl)
    have c7 := hS.at_ 7 ⟨w.heap.size + 1 + 1, 2, none⟩ (.int .i32 (y2).v) (by rw [hCL]; rfl)
    have nb14 : Blk wu (γ 14) 92 [.int .i64 0, .int .i64 0, .bool false, .int .i64 2, .int .i64 2, .bool false, .int .i64 3, .int .i64 1, .bool true] := (hp.blk_ 14 (T := 92) (c := [.int .i64 0, .int .i64 0, .bool false, .int .i64 2, .int .i64 2, .bool false, .int .i64 3, .int .i64 1, .bool true])).1
    have hk := hK.call (.int .i32 (totalW [x0, x1, x2, x3] [y0, y1, y2] ⟨0, 0, false⟩ [⟨2, 2, false⟩, ⟨3, 1, true⟩]).v)
    clear hp hK
    go_simp
    refine (wtotal_calls p [x0, x1, x2, x3] [y0, y1, y2] ⟨0, 0, false⟩ [⟨2, 2, false⟩, ⟨3, 1, true⟩] _ _ _ _ _ _ _ _ (sl4 c1 c2 c3 c4) (sl3 c5 c6 c7) nb14 (by simp) (show ∀ x ∈ ([⟨0, 0, false⟩, ⟨2, 2, false⟩, ⟨3, 1, true⟩] : List Tm), x.a < 4 ∧ x.b < 3 by decide) rfl rfl (by simp) (by simp) (by simp)).mono ?_
    rintro e w7 ⟨rfl, hcX⟩
    exact hk _ (hS.call hcX) (Reg.keep_call _ rfl hcX)
  · intro a wu γ nph K hp hK
    obtain ⟨e3a, e3b⟩ := hp.old_ 3 (.pointer (some ⟨w.heap.size, 0, none⟩))
    have hS : Sd w6 [w.heap.size + 1 + 1 + 1] CL wu := hp.S
    have c0 := hS.at_ 0 ⟨w.heap.size, 0, none⟩ (.iface 59 (.pointer (some p))) (by rw [hCL]; rfl)
    have hk := hK.pure (.agg #[.iface 59 (.pointer (some p))]) hp.S
    clear hp hK hS
    go_simp
    exact hk
  · intro a wu γ nph K hp hK
    obtain ⟨e4a, e4b⟩ := hp.old_ 4 (.pointer (some ⟨w.heap.size + 1, 0, none⟩))
    have hk := hK.pure (.slice (some ⟨w.heap.size + 1, 0, none⟩) 4 4) hp.S
    clear hp hK
    go_simp
    exact hk
  · intro a wu γ nph K hp hK
    obtain ⟨e5a, e5b⟩ := hp.old_ 5 (.pointer (some ⟨w.heap.size + 1 + 1, 0, none⟩))
    have hk := hK.pure (.slice (some ⟨w.heap.size + 1 + 1, 0, none⟩) 3 3) hp.S
    clear hp hK
    go_simp
    exact hk
  · intro a wu γ nph K hp hK
    have hk := hK.pure (.agg #[.int .i64 0, .int .i64 1, .bool false]) hp.S
    clear hp hK
    go_simp
    exact hk
  · intro a wu γ nph K hp hK
    have hk := hK.pure (.agg #[.int .i64 1, .int .i64 2, .bool true]) hp.S
    clear hp hK
    go_simp
    exact hk
  · intro a wu γ nph K hp hK
    have hk := hK.pure (.agg #[.int .i64 3, .int .i64 0, .bool false]) hp.S
    clear hp hK
    go_simp
    exact hk
  · intro a wu γ nph K hp hK
    obtain ⟨e26a, e26b⟩ := hp.dep_ 26 19 (.agg #[.int .i64 0, .int .i64 1, .bool false])
    obtain ⟨e27a, e27b⟩ := hp.dep_ 27 20 (.agg #[.int .i64 1, .int .i64 2, .bool true])
    obtain ⟨e28a, e28b⟩ := hp.dep_ 28 21 (.agg #[.int .i64 3, .int .i64 0, .bool false])
    have hk := hK.new 92 [.int .i64 0, .int .i64 1, .bool false, .int .i64 1, .int .i64 2, .bool true, .int .i64 3, .int .i64 0, .bool false] (fun g => .slice (some ⟨g, 0, none⟩) 3 3)
    clear hp hK
    go_simp
    exact hk
  · intro a wu γ nph K hp hK
    obtain ⟨e23a, e23b⟩ := hp.dep_ 23 16 (.agg #[.iface 59 (.pointer (some p))])
    obtain ⟨e24a, e24b⟩ := hp.dep_ 24 17 (.slice (some ⟨w.heap.size + 1, 0, none⟩) 4 4)
    obtain ⟨e25a, e25b⟩ := hp.dep_ 25 18 (.slice (some ⟨w.heap.size + 1 + 1, 0, none⟩) 3 3)
    obtain ⟨e29a, e29b⟩ := hp.dep_ 29 22 (.slice (some ⟨γ 22, 0, none⟩) 3 3)
    have hS : Sd w6 [w.heap.size + 1 + 1 + 1] CL wu := hp.S
    have c1 := hS.at_ 1 ⟨w.heap.size + 1, 0, none⟩ (.int .i32 (x0).v) (by rw [hCL]; rfl)
    have c2 := hS.at_ 2 ⟨w.heap.size + 1, 1, none⟩ (.int .i32 (x1).v) (by rw [hCL]; rfl)
    have c3 := hS.at_ 3 ⟨w.heap.size + 1, 2, none⟩ (.int .i32 (x2).v) (by rw [hCL]; rfl)
    have c4 := hS.at_ 4 ⟨w.heap.size + 1, 3, none⟩ (.int .i32 (x3).v) (by rw [hCL]; rfl)
    have c5 := hS.at_ 5 ⟨w.heap.size + 1 + 1, 0, none⟩ (.int .i32 (y0).v) (by rw [hCL]; rfl)
    have c6 := hS.at_ 6 ⟨w.heap.size + 1 + 1, 1, none⟩ (.int .i32 (y1).v) (by rw [hCL]; rfl)
    have c7 := hS.at_ 7 ⟨w.heap.size + 1 + 1, 2, none⟩ (.int .i32 (y2).v) (by rw [hCL]; rfl)
    have nb22 : Blk wu (γ 22) 92 [.int .i64 0, .int .i64 1, .bool false, .int .i64 1, .int .i64 2, .bool true, .int .i64 3, .int .i64 0, .bool false] := (hp.blk_ 22 (T := 92) (c := [.int .i64 0, .int .i64 1, .bool false, .int .i64 1, .int .i64 2, .bool true, .int .i64 3, .int .i64 0, .bool false])).1
    have hk := hK.call (.int .i32 (totalW [x0, x1, x2, x3] [y0, y1, y2] ⟨0, 1, false⟩ [⟨1, 2, true⟩, ⟨3, 0, false⟩]).v)
    clear hp hK
    go_simp
    refine (wtotal_calls p [x0, x1, x2, x3] [y0, y1, y2] ⟨0, 1, false⟩ [⟨1, 2, true⟩, ⟨3, 0, false⟩] _ _ _ _ _ _ _ _ (sl4 c1 c2 c3 c4) (sl3 c5 c6 c7) nb22 (by simp) (show ∀ x ∈ ([⟨0, 1, false⟩, ⟨1, 2, true⟩, ⟨3, 0, false⟩] : List Tm), x.a < 4 ∧ x.b < 3 by decide) rfl rfl (by simp) (by simp) (by simp)).mono ?_
    rintro e w7 ⟨rfl, hcX⟩
    exact hk _ (hS.call hcX) (Reg.keep_call _ rfl hcX)
  · intro a wu γ nph K hp hK
    obtain ⟨e3a, e3b⟩ := hp.old_ 3 (.pointer (some ⟨w.heap.size, 0, none⟩))
    have hS : Sd w6 [w.heap.size + 1 + 1 + 1] CL wu := hp.S
    have c0 := hS.at_ 0 ⟨w.heap.size, 0, none⟩ (.iface 59 (.pointer (some p))) (by rw [hCL]; rfl)
    have hk := hK.pure (.agg #[.iface 59 (.pointer (some p))]) hp.S
    clear hp hK hS
    go_simp
    exact hk
  · intro a wu γ nph K hp hK
    obtain ⟨e4a, e4b⟩ := hp.old_ 4 (.pointer (some ⟨w.heap.size + 1, 0, none⟩))
    have hk := hK.pure (.slice (some ⟨w.heap.size + 1, 0, none⟩) 4 4) hp.S
    clear hp hK
    go_simp
    exact hk
  · intro a wu γ nph K hp hK
    obtain ⟨e5a, e5b⟩ := hp.old_ 5 (.pointer (some ⟨w.heap.size + 1 + 1, 0, none⟩))
    have hk := hK.pure (.slice (some ⟨w.heap.size + 1 + 1, 0, none⟩) 3 3) hp.S
    clear hp hK
    go_simp
    exact hk
  · intro a wu γ nph K hp hK
    have hk := hK.pure (.agg #[.int .i64 0, .int .i64 2, .bool false]) hp.S
    clear hp hK
    go_simp
    exact hk
  · intro a wu γ nph K hp hK
    have hk := hK.pure (.agg #[.int .i64 1, .int .i64 1, .bool false]) hp.S
    clear hp hK
    go_simp
    exact hk
  · intro a wu γ nph K hp hK
    have hk := hK.pure (.agg #[.int .i64 2, .int .i64 0, .bool true]) hp.S
    clear hp hK
    go_simp
    exact hk
  · intro a wu γ nph K hp hK
    obtain ⟨e34a, e34b⟩ := hp.dep_ 34 27 (.agg #[.int .i64 0, .int .i64 2, .bool false])
    obtain ⟨e35a, e35b⟩ := hp.dep_ 35 28 (.agg #[.int .i64 1, .int .i64 1, .bool false])
    obtain ⟨e36a, e36b⟩ := hp.dep_ 36 29 (.agg #[.int .i64 2, .int .i64 0, .bool true])
    have hk := hK.new 92 [.int .i64 0, .int .i64 2, .bool false, .int .i64 1, .int .i64 1, .bool false, .int .i64 2, .int .i64 0, .bool true] (fun g => .slice (some ⟨g, 0, none⟩) 3 3)
    clear hp hK
    go_simp
    exact hk
  · intro a wu γ nph K hp hK
    obtain ⟨e31a, e31b⟩ := hp.dep_ 31 24 (.agg #[.iface 59 (.pointer (some p))])
    obtain ⟨e32a, e32b⟩ := hp.dep_ 32 25 (.slice (some ⟨w.heap.size + 1, 0, none⟩) 4 4)
    obtain ⟨e33a, e33b⟩ := hp.dep_ 33 26 (.slice (some ⟨w.heap.size + 1 + 1, 0, none⟩) 3 3)
    obtain ⟨e37a, e37b⟩ := hp.dep_ 37 30 (.slice (some ⟨γ 30, 0, none⟩) 3 3)
    have hS : Sd w6 [w.heap.size + 1 + 1 + 1] CL wu := hp.S
    have c1 := hS.at_ 1 ⟨w.heap.size + 1, 0, none⟩ (.int .i32 (x0).v) (by rw [hCL]; rfl)
    have c2 := hS.at_ 2 ⟨w.heap.size + 1, 1, none⟩ (.int .i32 (x1).v) (by rw [hCL]; rfl)
    have c3 := hS.at_ 3 ⟨w.heap.size + 1, 2, none⟩ (.int .i32 (x2).v) (by rw [hCL]; rfl)
    have c4 := hS.at_ 4 ⟨w.heap.size + 1, 3, none⟩ (.int .i32 (x3).v) (by rw [hCL]; rfl)
    have c5 := hS.at_ 5 ⟨w.heap.size + 1 + 1, 0, none⟩ (.int .i32 (y0).v) (by rw [hCL]; rfl)
    have c6 := hS.at_ 6 ⟨w.heap.size + 1 + 1, 1, none⟩ (.int .i32 (y1).v) (by rw [hCL]; rfl)
    have c7 := hS.at_ 7 ⟨w.heap.size + 1 + 1, 2, none⟩ (.int .i32 (y2).v) (by rw [hCL]; rfl)
    have nb30 : Blk wu (γ 30) 92 [.int .i64 0, .int .i64 2, .bool false, .int .i64 1, .int .i64 1, .bool false, .int .i64 2, .int .i64 0, .bool true] := (hp.blk_ 30 (T := 92) (c := [.int .i64 0, .int .i64 2, .bool false, .int .i64 1, .int .i64 1, .bool false, .int .i64 2, .int .i64 0, .bool true])).1
    have hk := hK.call (.int .i32 (totalW [x0, x1, x2, x3] [y0, y1, y2] ⟨0, 2, false⟩ [⟨1, 1, false⟩, ⟨2, 0, true⟩]).v)
    clear hp hK
    go_simp
    refine (wtotal_calls p [x0, x1, x2, x3] [y0, y1, y2] ⟨0, 2, false⟩ [⟨1, 1, false⟩, ⟨2, 0, true⟩] _ _ _ _ _ _ _ _ (sl4 c1 c2 c3 c4) (sl3 c5 c6 c7) nb30 (by simp) (show ∀ x ∈ ([⟨0, 2, false⟩, ⟨1, 1, false⟩, ⟨2, 0, true⟩] : List Tm), x.a < 4 ∧ x.b < 3 by decide) rfl rfl (by simp) (by simp) (by simp)).mono ?_
    rintro e w7 ⟨rfl, hcX⟩
    exact hk _ (hS.call hcX) (Reg.keep_call _ rfl hcX)
  · intro a wu γ nph K hp hK
    obtain ⟨e14a, e14b⟩ := hp.dep_ 14 7 (.int .i32 (totalW [x0, x1, x2, x3] [y0, y1, y2] ⟨1, 0, true⟩ [⟨2, 1, true⟩, ⟨3, 2, true⟩]).v)
    obtain ⟨e22a, e22b⟩ := hp.dep_ 22 15 (.int .i32 (totalW [x0, x1, x2, x3] [y0, y1, y2] ⟨0, 0, false⟩ [⟨2, 2, false⟩, ⟨3, 1, true⟩]).v)
    obtain ⟨e30a, e30b⟩ := hp.dep_ 30 23 (.int .i32 (totalW [x0, x1, x2, x3] [y0, y1, y2] ⟨0, 1, false⟩ [⟨1, 2, true⟩, ⟨3, 0, false⟩]).v)
    obtain ⟨e38a, e38b⟩ := hp.dep_ 38 31 (.int .i32 (totalW [x0, x1, x2, x3] [y0, y1, y2] ⟨0, 2, false⟩ [⟨1, 1, false⟩, ⟨2, 0, true⟩]).v)
    have hk := hK.pure (.agg #[.int .i32 (totalW [x0, x1, x2, x3] [y0, y1, y2] ⟨1, 0, true⟩ [⟨2, 1, true⟩, ⟨3, 2, true⟩]).v, .int .i32 (totalW [x0, x1, x2, x3] [y0, y1, y2] ⟨0, 0, false⟩ [⟨2, 2, false⟩, ⟨3, 1, true⟩]).v, .int .i32 (totalW [x0, x1, x2, x3] [y0, y1, y2] ⟨0, 1, false⟩ [⟨1, 2, true⟩, ⟨3, 0, false⟩]).v, .int .i32 (totalW [x0, x1, x2, x3] [y0, y1, y2] ⟨0, 2, false⟩ [⟨1, 1, false⟩, ⟨2, 0, true⟩]).v]) hp.S
    clear hp hK
    go_simp
    exact hk
  · intro a wu γ nph K hp hK
    obtain ⟨e6a, e6b⟩ := hp.old_ 6 (.pointer (some ⟨w.heap.size + 1 + 1 + 1, 0, none⟩))
    obtain ⟨e39a, e39b⟩ := hp.dep_ 39 32 (.agg #[.int .i32 (totalW [x0, x1, x2, x3] [y0, y1, y2] ⟨1, 0, true⟩ [⟨2, 1, true⟩, ⟨3, 2, true⟩]).v, .int .i32 (totalW [x0, x1, x2, x3] [y0, y1, y2] ⟨0, 0, false⟩ [⟨2, 2, false⟩, ⟨3, 1, true⟩]).v, .int .i32 (totalW [x0, x1, x2, x3] [y0, y1, y2] ⟨0, 1, false⟩ [⟨1, 2, true⟩, ⟨3, 0, false⟩]).v, .int .i32 (totalW [x0, x1, x2, x3] [y0, y1, y2] ⟨0, 2, false⟩ [⟨1, 1, false⟩, ⟨2, 0, true⟩]).v])
    have hb := (hp.blk_ 34 (T := 27) (c := [.int .i32 0, .int .i32 0, .int .i32 0, .int .i32 0])).1
    have hk := hK.put 34 27 [.int .i32 0, .int .i32 0, .int .i32 0, .int .i32 0] [.int .i32 (totalW [x0, x1, x2, x3] [y0, y1, y2] ⟨1, 0, true⟩ [⟨2, 1, true⟩, ⟨3, 2, true⟩]).v, .int .i32 (totalW [x0, x1, x2, x3] [y0, y1, y2] ⟨0, 0, false⟩ [⟨2, 2, false⟩, ⟨3, 1, true⟩]).v, .int .i32 (totalW [x0, x1, x2, x3] [y0, y1, y2] ⟨0, 1, false⟩ [⟨1, 2, true⟩, ⟨3, 0, false⟩]).v, .int .i32 (totalW [x0, x1, x2, x3] [y0, y1, y2] ⟨0, 2, false⟩ [⟨1, 1, false⟩, ⟨2, 0, true⟩]).v]
    have hO : γ 34 = w.heap.size + 1 + 1 + 1 := hp.old 34 (Nat.le_trans (Nat.le_of_eq (by kernel_rfl : _ = 34)) (by decide : 34 ≤ 34))
    rw [hO] at hb hk
    have z0 := hb.cell' (i := 0) rfl
    have f0 := hb.frozen 0
    have z1 := hb.cell' (i := 1) rfl
    have f1 := hb.frozen 1
    have z2 := hb.cell' (i := 2) rfl
    have f2 := hb.frozen 2
    have z3 := hb.cell' (i := 3) rfl
    have f3 := hb.frozen 3
    clear hp hK
    clear hO
    go_simp
    exact hk _ ((((hb.set_ 0 _).set_ 1 _).set_ 2 _).set_ 3 _) (((((Chg.refl wu _).setCell _ _ (.inl (by simp))).setCell _ _ (.inl (by simp))).setCell _ _ (.inl (by simp))).setCell _ _ (.inl (by simp))) (by simp)

end Go.Proofs.YtkfkoobdmnndcaaGreat
