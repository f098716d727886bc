/- Sensed of package works at numbers. -/
import Derived.Test.YtbmfcedndbgpoaaGreatWorks9
import Derived.Test.YtbmfcedndbgpoaaGreatWorks12
namespace Go.Proofs.YtbmfcedndbgpoaaGreat
open Go.RowKit Go.Deep
set_option linter.unusedVariables false
def sensedA (a0 a1 a2 : Wd) : Wd := withinW (squareW a0 a1 a2) (kW 16777216) (kW 150994944)
def sensedM (m0 m1 m2 : Wd) : Wd := withinW (squareW m0 m1 m2) (kW 1000000) (kW 400000000)
def sensedP (q0 q1 q2 q3 a0 a1 a2 : Wd) : Q4 := pullW q0 q1 q2 q3 (pointW a0 a1 a2).a (pointW a0 a1 a2).b (pointW a0 a1 a2).c
def sensedN (q0 q1 q2 q3 m0 m1 m2 : Wd) : Q4 := fieldW q0 q1 q2 q3 (pointW m0 m1 m2).a (pointW m0 m1 m2).b (pointW m0 m1 m2).c
/-- Pull, and field if it is taken. -/
def downOf (P N : Q4) (gm : Wd) : Q4 := ⟨addsW P.a (andW N.a gm), addsW P.b (andW N.b gm), addsW P.c (andW N.c gm), addsW P.d (andW N.d gm)⟩
def evenOf (D : Q4) : Q4 := evenW D.a D.b D.c D.d
def rateOf (q0 q1 q2 q3 g0 g1 g2 : Wd) : Q4 := rateW q0 q1 q2 q3 (upW g0 12) (upW g1 12) (upW g2 12)
def stepOf (q0 q1 q2 q3 : Wd) (R E : Q4) (ga : Wd) : Q4 := unitW (partW q0 R.a E.a ga) (partW q1 R.b E.b ga) (partW q2 R.c E.c ga) (partW q3 R.d E.d ga)
def sensedE (q0 q1 q2 q3 a0 a1 a2 m0 m1 m2 : Wd) : Q4 := evenOf (downOf (sensedP q0 q1 q2 q3 a0 a1 a2) (sensedN q0 q1 q2 q3 m0 m1 m2) (sensedM m0 m1 m2))
def sensedW (q0 q1 q2 q3 g0 g1 g2 a0 a1 a2 m0 m1 m2 : Wd) : Q4 := stepOf q0 q1 q2 q3 (rateOf q0 q1 q2 q3 g0 g1 g2) (sensedE q0 q1 q2 q3 a0 a1 a2 m0 m1 m2) (sensedA a0 a1 a2)
set_option maxRecDepth 100000 in
set_option maxHeartbeats 16000000 in
theorem wsensed_calls (b : Nat) (q0 q1 q2 q3 u0 u1 u2 a0 a1 a2 v0 v1 v2 : Wd) (n : Nat) (w : World) (hn : n ≤ 880) (hpl : PlR w b (most n)) :
    Calls Tryz.prog 73 #[.agg #[.iface 74 (.pointer (some ⟨b, 0, none⟩))], .agg #[.int .i32 q0.v, .int .i32 q1.v, .int .i32 q2.v, .int .i32 q3.v], .agg #[.int .i32 u0.v, .int .i32 u1.v, .int .i32 u2.v], .agg #[.int .i32 a0.v, .int .i32 a1.v, .int .i32 a2.v], .agg #[.int .i32 v0.v, .int .i32 v1.v, .int .i32 v2.v]] w fun e w' => e = .returned (.tuple #[.agg #[.int .i32 (sensedW q0 q1 q2 q3 u0 u1 u2 a0 a1 a2 v0 v1 v2).a.v, .int .i32 (sensedW q0 q1 q2 q3 u0 u1 u2 a0 a1 a2 v0 v1 v2).b.v, .int .i32 (sensedW q0 q1 q2 q3 u0 u1 u2 a0 a1 a2 v0 v1 v2).c.v, .int .i32 (sensedW q0 q1 q2 q3 u0 u1 u2 a0 a1 a2 v0 v1 v2).d.v], .int .i32 (sensedA a0 a1 a2).v, .int .i32 (sensedM v0 v1 v2).v]) ∧ PlR w' b (most (n + 5)) ∧ Turn w b w' := by
  have k0 := Blk.new w 52 [.iface 74 (.pointer (some ⟨b, 0, none⟩))]
  have m0 := (((((k0.alloc (.cells #[.int .i32 q0.v, .int .i32 q1.v, .int .i32 q2.v, .int .i32 q3.v] 27)).alloc (.cells #[.int .i32 u0.v, .int .i32 u1.v, .int .i32 u2.v] 22)).alloc (.cells #[.int .i32 a0.v, .int .i32 a1.v, .int .i32 a2.v] 22)).alloc (.cells #[.int .i32 v0.v, .int .i32 v1.v, .int .i32 v2.v] 22)).alloc (.cells #[.int .i32 0, .int .i32 0, .int .i32 0, .int .i32 0] 27))
  have g0_0 := m0.cell' (i := 0) rfl
  have k1 := Blk.new (w.alloc (.cells #[.iface 74 (.pointer (some ⟨b, 0, none⟩))] 52)) 27 [.int .i32 q0.v, .int .i32 q1.v, .int .i32 q2.v, .int .i32 q3.v]
  have m1 := ((((k1.alloc (.cells #[.int .i32 u0.v, .int .i32 u1.v, .int .i32 u2.v] 22)).alloc (.cells #[.int .i32 a0.v, .int .i32 a1.v, .int .i32 a2.v] 22)).alloc (.cells #[.int .i32 v0.v, .int .i32 v1.v, .int .i32 v2.v] 22)).alloc (.cells #[.int .i32 0, .int .i32 0, .int .i32 0, .int .i32 0] 27))
  simp only [size_alloc] at m1
  have g1_0 := m1.cell' (i := 0) rfl
  have g1_1 := m1.cell' (i := 1) rfl
  have g1_2 := m1.cell' (i := 2) rfl
  have g1_3 := m1.cell' (i := 3) rfl
  have k2 := Blk.new ((w.alloc (.cells #[.iface 74 (.pointer (some ⟨b, 0, none⟩))] 52)).alloc (.cells #[.int .i32 q0.v, .int .i32 q1.v, .int .i32 q2.v, .int .i32 q3.v] 27)) 22 [.int .i32 u0.v, .int .i32 u1.v, .int .i32 u2.v]
  have m2 := (((k2.alloc (.cells #[.int .i32 a0.v, .int .i32 a1.v, .int .i32 a2.v] 22)).alloc (.cells #[.int .i32 v0.v, .int .i32 v1.v, .int .i32 v2.v] 22)).alloc (.cells #[.int .i32 0, .int .i32 0, .int .i32 0, .int .i32 0] 27))
  simp only [size_alloc] at m2
  have k3 := Blk.new (((w.alloc (.cells #[.iface 74 (.pointer (some ⟨b, 0, none⟩))] 52)).alloc (.cells #[.int .i32 q0.v, .int .i32 q1.v, .int .i32 q2.v, .int .i32 q3.v] 27)).alloc (.cells #[.int .i32 u0.v, .int .i32 u1.v, .int .i32 u2.v] 22)) 22 [.int .i32 a0.v, .int .i32 a1.v, .int .i32 a2.v]
  have m3 := ((k3.alloc (.cells #[.int .i32 v0.v, .int .i32 v1.v, .int .i32 v2.v] 22)).alloc (.cells #[.int .i32 0, .int .i32 0, .int .i32 0, .int .i32 0] 27))
  simp only [size_alloc] at m3
  have g3_0 := m3.cell' (i := 0) rfl
  have g3_1 := m3.cell' (i := 1) rfl
  have g3_2 := m3.cell' (i := 2) rfl
  have k4 := Blk.new ((((w.alloc (.cells #[.iface 74 (.pointer (some ⟨b, 0, none⟩))] 52)).alloc (.cells #[.int .i32 q0.v, .int .i32 q1.v, .int .i32 q2.v, .int .i32 q3.v] 27)).alloc (.cells #[.int .i32 u0.v, .int .i32 u1.v, .int .i32 u2.v] 22)).alloc (.cells #[.int .i32 a0.v, .int .i32 a1.v, .int .i32 a2.v] 22)) 22 [.int .i32 v0.v, .int .i32 v1.v, .int .i32 v2.v]
  have m4 := (k4.alloc (.cells #[.int .i32 0, .int .i32 0, .int .i32 0, .int .i32 0] 27))
  simp only [size_alloc] at m4
  have g4_0 := m4.cell' (i := 0) rfl
  have g4_1 := m4.cell' (i := 1) rfl
  have g4_2 := m4.cell' (i := 2) rfl
  have k5 := Blk.new (((((w.alloc (.cells #[.iface 74 (.pointer (some ⟨b, 0, none⟩))] 52)).alloc (.cells #[.int .i32 q0.v, .int .i32 q1.v, .int .i32 q2.v, .int .i32 q3.v] 27)).alloc (.cells #[.int .i32 u0.v, .int .i32 u1.v, .int .i32 u2.v] 22)).alloc (.cells #[.int .i32 a0.v, .int .i32 a1.v, .int .i32 a2.v] 22)).alloc (.cells #[.int .i32 v0.v, .int .i32 v1.v, .int .i32 v2.v] 22)) 27 [.int .i32 0, .int .i32 0, .int .i32 0, .int .i32 0]
  have m5 := k5
  simp only [size_alloc] at m5
  have HC := hide (((((((Chg.refl w []).alloc (.cells #[.iface 74 (.pointer (some ⟨b, 0, none⟩))] 52)).alloc (.cells #[.int .i32 q0.v, .int .i32 q1.v, .int .i32 q2.v, .int .i32 q3.v] 27)).alloc (.cells #[.int .i32 u0.v, .int .i32 u1.v, .int .i32 u2.v] 22)).alloc (.cells #[.int .i32 a0.v, .int .i32 a1.v, .int .i32 a2.v] 22)).alloc (.cells #[.int .i32 v0.v, .int .i32 v1.v, .int .i32 v2.v] 22)).alloc (.cells #[.int .i32 0, .int .i32 0, .int .i32 0, .int .i32 0] 27))
  clear k0 k1 k2 k3 k4 k5
  have h1 := nil_const ⟨b, 0, none⟩
  have h2 := meth_const ⟨b, 0, none⟩
  have h3 := nil_get ⟨b, 0, none⟩
  have h4 := meth_get ⟨b, 0, none⟩
  have h5 := nil_set ⟨b, 0, none⟩
  have h6 := meth_set ⟨b, 0, none⟩
  have h7 := nil_cell ⟨b, 0, none⟩
  have h8 := meth_cell ⟨b, 0, none⟩
  have h9 := nil_loop ⟨b, 0, none⟩
  have h10 := meth_loop ⟨b, 0, none⟩
  have HT0 : Hid (Turn w b ((((((w.alloc (.cells #[.iface 74 (.pointer (some ⟨b, 0, none⟩))] 52)).alloc (.cells #[.int .i32 q0.v, .int .i32 q1.v, .int .i32 q2.v, .int .i32 q3.v] 27)).alloc (.cells #[.int .i32 u0.v, .int .i32 u1.v, .int .i32 u2.v] 22)).alloc (.cells #[.int .i32 a0.v, .int .i32 a1.v, .int .i32 a2.v] 22)).alloc (.cells #[.int .i32 v0.v, .int .i32 v1.v, .int .i32 v2.v] 22)).alloc (.cells #[.int .i32 0, .int .i32 0, .int .i32 0, .int .i32 0] 27))) := hide (Turn.call hpl HC.out)
  have hfar := far_of hpl HC.out
  have fb0 := hfar (w.heap.size) (by omega)
  have fb1 := hfar (w.heap.size + 1) (by omega)
  have fb2 := hfar (w.heap.size + 1 + 1) (by omega)
  have fb3 := hfar (w.heap.size + 1 + 1 + 1) (by omega)
  have fb4 := hfar (w.heap.size + 1 + 1 + 1 + 1) (by omega)
  have fb5 := hfar (w.heap.size + 1 + 1 + 1 + 1 + 1) (by omega)
  have hp6 := hpl.chg HC.out (by simp)
  clear hfar HC m0 m3 m4
  go_enter Tryz.func73, Tryz.ntmps73
  go_wp2_with fail
  generalize ((((((w.alloc (.cells #[.iface 74 (.pointer (some ⟨b, 0, none⟩))] 52)).alloc (.cells #[.int .i32 q0.v, .int .i32 q1.v, .int .i32 q2.v, .int .i32 q3.v] 27)).alloc (.cells #[.int .i32 u0.v, .int .i32 u1.v, .int .i32 u2.v] 22)).alloc (.cells #[.int .i32 a0.v, .int .i32 a1.v, .int .i32 a2.v] 22)).alloc (.cells #[.int .i32 v0.v, .int .i32 v1.v, .int .i32 v2.v] 22)).alloc (.cells #[.int .i32 0, .int .i32 0, .int .i32 0, .int .i32 0] 27)) = w6 at *
  obtain ⟨CL, hCL⟩ : ∃ l : List (Addr × Value), l = [(⟨w.heap.size, 0, none⟩, .iface 74 (.pointer (some ⟨b, 0, none⟩))), (⟨w.heap.size + 1, 0, none⟩, .int .i32 (q0).v), (⟨w.heap.size + 1, 1, none⟩, .int .i32 (q1).v), (⟨w.heap.size + 1, 2, none⟩, .int .i32 (q2).v), (⟨w.heap.size + 1, 3, none⟩, .int .i32 (q3).v), (⟨w.heap.size + 1 + 1 + 1, 0, none⟩, .int .i32 (a0).v), (⟨w.heap.size + 1 + 1 + 1, 1, none⟩, .int .i32 (a1).v), (⟨w.heap.size + 1 + 1 + 1, 2, none⟩, .int .i32 (a2).v), (⟨w.heap.size + 1 + 1 + 1 + 1, 0, none⟩, .int .i32 (v0).v), (⟨w.heap.size + 1 + 1 + 1 + 1, 1, none⟩, .int .i32 (v1).v), (⟨w.heap.size + 1 + 1 + 1 + 1, 2, none⟩, .int .i32 (v2).v)] := ⟨_, rfl⟩
  have HS0 : Sp w6 b (fun _ => (most n)) [] CL 0 w6.drew := Sp.start hp6 (by rw [hCL]; simp only [List.forall_mem_cons]; exact ⟨g0_0, g1_0, g1_1, g1_2, g1_3, g3_0, g3_1, g3_2, g4_0, g4_1, g4_2, by simp⟩)
  have hap : Apart w6 b [] [w.heap.size, w.heap.size + 1, w.heap.size + 1 + 1 + 1, w.heap.size + 1 + 1 + 1 + 1] CL := ⟨by rw [hCL]; simp only [List.forall_mem_cons]; exact ⟨by simp, by simp, by simp, by simp, by simp, by simp, by simp, by simp, by simp, by simp, by simp, by simp⟩, by simp only [List.forall_mem_cons]; exact ⟨World.block_lt_of_cell? _ _ g0_0, World.block_lt_of_cell? _ _ g1_0, World.block_lt_of_cell? _ _ g3_0, World.block_lt_of_cell? _ _ g4_0, by simp⟩, by simp only [List.forall_mem_cons]; exact ⟨fb0, fb1, fb3, fb4, by simp⟩, by simp⟩
  refine Reg.wp_region (Reg.of 6 _ _ [.agg #[.iface 74 (.pointer (some ⟨b, 0, none⟩))], .agg #[.iface 74 (.pointer (some ⟨b, 0, none⟩))], .agg #[.int .i32 (a0).v, .int .i32 (a1).v, .int .i32 (a2).v], .int .i32 (squareW (a0) (a1) (a2)).v, .int .i32 (withinW (squareW (a0) (a1) (a2)) (kW 16777216) (kW 150994944)).v, .int .i32 (withinW (squareW (a0) (a1) (a2)) (kW 16777216) (kW 150994944)).v] [fun _ => undef, fun _ => undef, fun _ => undef, fun _ => undef, fun _ => undef, fun _ => undef] [.val, .val, .val, .val, .val, .val] [] [] [] (Sp w6 b (fun _ => (most n)) [] CL) (Fp w6 b [] [w.heap.size, w.heap.size + 1, w.heap.size + 1 + 1 + 1, w.heap.size + 1 + 1 + 1 + 1])) (Reg.good_of _ 110 (by kernel_rfl) (by kernel_rfl)) (stands_p _ hap rfl rfl rfl) (by kernel_rfl) HS0 (hold_of (by kernel_rfl) ?holdwz1) (ne_of (by kernel_rfl) ?hnewz1) (Reg.steps_of _ rfl ⟨?_, ?_, ?_, ?_, ?_, ?_, trivial⟩) ?hendwz1
  case holdwz1 =>
    intro k T c hk; simp at hk
  case hnewz1 => intro i j hi hj hne; exact absurd hi (by simp)
  case hendwz1 =>
    intro wz1 γ hSz hBz hnez hOz
    replace hSz : Sp w6 b (fun _ => (most n)) [] CL 0 wz1 := hSz
    refine end_of [(13, .int .i32 (withinW (squareW (a0) (a1) (a2)) (kW 16777216) (kW 150994944)).v), (22, .agg #[.iface 74 (.pointer (some ⟨b, 0, none⟩))]), (23, .agg #[.iface 74 (.pointer (some ⟨b, 0, none⟩))]), (24, .agg #[.int .i32 (a0).v, .int .i32 (a1).v, .int .i32 (a2).v]), (25, .int .i32 (squareW (a0) (a1) (a2)).v), (26, .int .i32 (withinW (squareW (a0) (a1) (a2)) (kW 16777216) (kW 150994944)).v)] (by kernel_rfl) ?_
    clear hBz hnez hOz HS0
    simp only [Reg.of, List.foldl_cons, List.foldl_nil, List.setIfInBounds_toArray, List.set_cons_zero, List.set_cons_succ]
    have HC1 := hide (HT0.out.region hSz (by simp))
    have pl1 := hSz.pl
    have fr1_0 := hSz.apart hap (w.heap.size) (by simp)
    have fr1_1 := hSz.apart hap (w.heap.size + 1 + 1 + 1) (by simp)
    have fr1_2 := hSz.apart hap (w.heap.size + 1) (by simp)
    have fr1_3 := hSz.apart hap (w.heap.size + 1 + 1 + 1 + 1) (by simp)
    have y1_0 : wz1.cell? ⟨w.heap.size, 0, none⟩ = some (.iface 74 (.pointer (some ⟨b, 0, none⟩))) := hSz.at_ 0 _ _ (by rw [hCL]; rfl)
    have y1_1 : wz1.cell? ⟨w.heap.size + 1, 0, none⟩ = some (.int .i32 (q0).v) := hSz.at_ 1 _ _ (by rw [hCL]; rfl)
    have y1_2 : wz1.cell? ⟨w.heap.size + 1, 1, none⟩ = some (.int .i32 (q1).v) := hSz.at_ 2 _ _ (by rw [hCL]; rfl)
    have y1_3 : wz1.cell? ⟨w.heap.size + 1, 2, none⟩ = some (.int .i32 (q2).v) := hSz.at_ 3 _ _ (by rw [hCL]; rfl)
    have y1_4 : wz1.cell? ⟨w.heap.size + 1, 3, none⟩ = some (.int .i32 (q3).v) := hSz.at_ 4 _ _ (by rw [hCL]; rfl)
    have y1_5 : wz1.cell? ⟨w.heap.size + 1 + 1 + 1, 0, none⟩ = some (.int .i32 (a0).v) := hSz.at_ 5 _ _ (by rw [hCL]; rfl)
    have y1_6 : wz1.cell? ⟨w.heap.size + 1 + 1 + 1, 1, none⟩ = some (.int .i32 (a1).v) := hSz.at_ 6 _ _ (by rw [hCL]; rfl)
    have y1_7 : wz1.cell? ⟨w.heap.size + 1 + 1 + 1, 2, none⟩ = some (.int .i32 (a2).v) := hSz.at_ 7 _ _ (by rw [hCL]; rfl)
    have y1_8 : wz1.cell? ⟨w.heap.size + 1 + 1 + 1 + 1, 0, none⟩ = some (.int .i32 (v0).v) := hSz.at_ 8 _ _ (by rw [hCL]; rfl)
    have y1_9 : wz1.cell? ⟨w.heap.size + 1 + 1 + 1 + 1, 1, none⟩ = some (.int .i32 (v1).v) := hSz.at_ 9 _ _ (by rw [hCL]; rfl)
    have y1_10 : wz1.cell? ⟨w.heap.size + 1 + 1 + 1 + 1, 2, none⟩ = some (.int .i32 (v2).v) := hSz.at_ 10 _ _ (by rw [hCL]; rfl)
    have frk1_1 := hSz.turn_far m2.lt fb2
    have frk1_2 := hSz.turn_far m5.lt fb5
    replace m1 := m1.chg hSz.chg (fun hm => by rcases List.mem_append.1 hm with h1 | h1 <;> first | exact fb1 h1 | exact absurd h1 (by simp) | exact absurd h1 (by simp; omega))
    replace m2 := m2.chg hSz.chg (fun hm => by rcases List.mem_append.1 hm with h1 | h1 <;> first | exact fb2 h1 | exact absurd h1 (by simp) | exact absurd h1 (by simp; omega))
    replace m5 := m5.chg hSz.chg (fun hm => by rcases List.mem_append.1 hm with h1 | h1 <;> first | exact fb5 h1 | exact absurd h1 (by simp) | exact absurd h1 (by simp; omega))
    clear hSz hCL hap CL g0_0 g1_0 g1_1 g1_2 g1_3 g3_0 g3_1 g3_2 g4_0 g4_1 g4_2 HT0  fb0 fb1 fb2 fb3 fb4 fb5 hp6
    go_wp2_with fail
    obtain ⟨CL, hCL⟩ : ∃ l : List (Addr × Value), l = [(⟨w.heap.size, 0, none⟩, .iface 74 (.pointer (some ⟨b, 0, none⟩))), (⟨w.heap.size + 1, 0, none⟩, .int .i32 (q0).v), (⟨w.heap.size + 1, 1, none⟩, .int .i32 (q1).v), (⟨w.heap.size + 1, 2, none⟩, .int .i32 (q2).v), (⟨w.heap.size + 1, 3, none⟩, .int .i32 (q3).v), (⟨w.heap.size + 1 + 1 + 1, 0, none⟩, .int .i32 (a0).v), (⟨w.heap.size + 1 + 1 + 1, 1, none⟩, .int .i32 (a1).v), (⟨w.heap.size + 1 + 1 + 1, 2, none⟩, .int .i32 (a2).v), (⟨w.heap.size + 1 + 1 + 1 + 1, 0, none⟩, .int .i32 (v0).v), (⟨w.heap.size + 1 + 1 + 1 + 1, 1, none⟩, .int .i32 (v1).v), (⟨w.heap.size + 1 + 1 + 1 + 1, 2, none⟩, .int .i32 (v2).v)] := ⟨_, rfl⟩
    have HS0 : Sp wz1 b (fun _ => (most n)) [] CL 0 wz1.drew := Sp.start pl1 (by rw [hCL]; simp only [List.forall_mem_cons]; exact ⟨y1_0, y1_1, y1_2, y1_3, y1_4, y1_5, y1_6, y1_7, y1_8, y1_9, y1_10, by simp⟩)
    have hap : Apart wz1 b [] [w.heap.size, w.heap.size + 1, w.heap.size + 1 + 1 + 1, w.heap.size + 1 + 1 + 1 + 1] CL := ⟨by rw [hCL]; simp only [List.forall_mem_cons]; exact ⟨by simp, by simp, by simp, by simp, by simp, by simp, by simp, by simp, by simp, by simp, by simp, by simp⟩, by simp only [List.forall_mem_cons]; exact ⟨World.block_lt_of_cell? _ _ y1_0, World.block_lt_of_cell? _ _ y1_1, World.block_lt_of_cell? _ _ y1_5, World.block_lt_of_cell? _ _ y1_8, by simp⟩, by simp only [List.forall_mem_cons]; exact ⟨fr1_0, fr1_2, fr1_1, fr1_3, by simp⟩, by simp⟩
    refine Reg.wp_region (Reg.of 6 _ _ [.agg #[.iface 74 (.pointer (some ⟨b, 0, none⟩))], .agg #[.iface 74 (.pointer (some ⟨b, 0, none⟩))], .agg #[.int .i32 (v0).v, .int .i32 (v1).v, .int .i32 (v2).v], .int .i32 (squareW (v0) (v1) (v2)).v, .int .i32 (withinW (squareW (v0) (v1) (v2)) (kW 1000000) (kW 400000000)).v, .int .i32 (withinW (squareW (v0) (v1) (v2)) (kW 1000000) (kW 400000000)).v] [fun _ => undef, fun _ => undef, fun _ => undef, fun _ => undef, fun _ => undef, fun _ => undef] [.val, .val, .val, .val, .val, .val] [] [] [] (Sp wz1 b (fun _ => (most n)) [] CL) (Fp wz1 b [] [w.heap.size, w.heap.size + 1, w.heap.size + 1 + 1 + 1, w.heap.size + 1 + 1 + 1 + 1])) (Reg.good_of _ 110 (by kernel_rfl) (by kernel_rfl)) (stands_p _ hap rfl rfl rfl) (by kernel_rfl) HS0 (hold_of (by kernel_rfl) ?holdwz2) (ne_of (by kernel_rfl) ?hnewz2) (Reg.steps_of _ rfl ⟨?_, ?_, ?_, ?_, ?_, ?_, trivial⟩) ?hendwz2
    case holdwz2 =>
      intro k T c hk; simp at hk
    case hnewz2 => intro i j hi hj hne; exact absurd hi (by simp)
    case hendwz2 =>
      intro wz2 γ hSz hBz hnez hOz
      replace hSz : Sp wz1 b (fun _ => (most n)) [] CL 0 wz2 := hSz
      refine end_of [(14, .int .i32 (withinW (squareW (v0) (v1) (v2)) (kW 1000000) (kW 400000000)).v), (27, .agg #[.iface 74 (.pointer (some ⟨b, 0, none⟩))]), (28, .agg #[.iface 74 (.pointer (some ⟨b, 0, none⟩))]), (29, .agg #[.int .i32 (v0).v, .int .i32 (v1).v, .int .i32 (v2).v]), (30, .int .i32 (squareW (v0) (v1) (v2)).v), (31, .int .i32 (withinW (squareW (v0) (v1) (v2)) (kW 1000000) (kW 400000000)).v)] (by kernel_rfl) ?_
      clear hBz hnez hOz HS0
      simp only [Reg.of, List.foldl_cons, List.foldl_nil, List.setIfInBounds_toArray, List.set_cons_zero, List.set_cons_succ]
      have HC2 := hide (HC1.out.region hSz (by simp))
      have pl2 := hSz.pl
      have fr2_0 := hSz.apart hap (w.heap.size) (by simp)
      have fr2_1 := hSz.apart hap (w.heap.size + 1 + 1 + 1) (by simp)
      have fr2_2 := hSz.apart hap (w.heap.size + 1) (by simp)
      have fr2_3 := hSz.apart hap (w.heap.size + 1 + 1 + 1 + 1) (by simp)
      have y2_0 : wz2.cell? ⟨w.heap.size, 0, none⟩ = some (.iface 74 (.pointer (some ⟨b, 0, none⟩))) := hSz.at_ 0 _ _ (by rw [hCL]; rfl)
      have y2_1 : wz2.cell? ⟨w.heap.size + 1, 0, none⟩ = some (.int .i32 (q0).v) := hSz.at_ 1 _ _ (by rw [hCL]; rfl)
      have y2_2 : wz2.cell? ⟨w.heap.size + 1, 1, none⟩ = some (.int .i32 (q1).v) := hSz.at_ 2 _ _ (by rw [hCL]; rfl)
      have y2_3 : wz2.cell? ⟨w.heap.size + 1, 2, none⟩ = some (.int .i32 (q2).v) := hSz.at_ 3 _ _ (by rw [hCL]; rfl)
      have y2_4 : wz2.cell? ⟨w.heap.size + 1, 3, none⟩ = some (.int .i32 (q3).v) := hSz.at_ 4 _ _ (by rw [hCL]; rfl)
      have y2_5 : wz2.cell? ⟨w.heap.size + 1 + 1 + 1, 0, none⟩ = some (.int .i32 (a0).v) := hSz.at_ 5 _ _ (by rw [hCL]; rfl)
      have y2_6 : wz2.cell? ⟨w.heap.size + 1 + 1 + 1, 1, none⟩ = some (.int .i32 (a1).v) := hSz.at_ 6 _ _ (by rw [hCL]; rfl)
      have y2_7 : wz2.cell? ⟨w.heap.size + 1 + 1 + 1, 2, none⟩ = some (.int .i32 (a2).v) := hSz.at_ 7 _ _ (by rw [hCL]; rfl)
      have y2_8 : wz2.cell? ⟨w.heap.size + 1 + 1 + 1 + 1, 0, none⟩ = some (.int .i32 (v0).v) := hSz.at_ 8 _ _ (by rw [hCL]; rfl)
      have y2_9 : wz2.cell? ⟨w.heap.size + 1 + 1 + 1 + 1, 1, none⟩ = some (.int .i32 (v1).v) := hSz.at_ 9 _ _ (by rw [hCL]; rfl)
      have y2_10 : wz2.cell? ⟨w.heap.size + 1 + 1 + 1 + 1, 2, none⟩ = some (.int .i32 (v2).v) := hSz.at_ 10 _ _ (by rw [hCL]; rfl)
      have frk2_1 := hSz.turn_far m2.lt frk1_1
      have frk2_2 := hSz.turn_far m5.lt frk1_2
      replace m1 := m1.chg hSz.chg (fun hm => by rcases List.mem_append.1 hm with h1 | h1 <;> first | exact fr1_2 h1 | exact absurd h1 (by simp) | exact absurd h1 (by simp; omega))
      replace m2 := m2.chg hSz.chg (fun hm => by rcases List.mem_append.1 hm with h1 | h1 <;> first | exact frk1_1 h1 | exact absurd h1 (by simp) | exact absurd h1 (by simp; omega))
      replace m5 := m5.chg hSz.chg (fun hm => by rcases List.mem_append.1 hm with h1 | h1 <;> first | exact frk1_2 h1 | exact absurd h1 (by simp) | exact absurd h1 (by simp; omega))
      clear hSz hCL hap CL y1_0 y1_1 y1_2 y1_3 y1_4 y1_5 y1_6 y1_7 y1_8 y1_9 y1_10 HC1  fr1_0 fr1_1 fr1_2 fr1_3 frk1_1 frk1_2 pl1
      go_wp2_with fail
      obtain ⟨CL, hCL⟩ : ∃ l : List (Addr × Value), l = [(⟨w.heap.size, 0, none⟩, .iface 74 (.pointer (some ⟨b, 0, none⟩))), (⟨w.heap.size + 1, 0, none⟩, .int .i32 (q0).v), (⟨w.heap.size + 1, 1, none⟩, .int .i32 (q1).v), (⟨w.heap.size + 1, 2, none⟩, .int .i32 (q2).v), (⟨w.heap.size + 1, 3, none⟩, .int .i32 (q3).v), (⟨w.heap.size + 1 + 1 + 1, 0, none⟩, .int .i32 (a0).v), (⟨w.heap.size + 1 + 1 + 1, 1, none⟩, .int .i32 (a1).v), (⟨w.heap.size + 1 + 1 + 1, 2, none⟩, .int .i32 (a2).v), (⟨w.heap.size + 1 + 1 + 1 + 1, 0, none⟩, .int .i32 (v0).v), (⟨w.heap.size + 1 + 1 + 1 + 1, 1, none⟩, .int .i32 (v1).v), (⟨w.heap.size + 1 + 1 + 1 + 1, 2, none⟩, .int .i32 (v2).v)] := ⟨_, rfl⟩
      have HS0 : Sp wz2 b (fun k => most (n + k)) [] CL 0 wz2.drew := Sp.start pl2 (by rw [hCL]; simp only [List.forall_mem_cons]; exact ⟨y2_0, y2_1, y2_2, y2_3, y2_4, y2_5, y2_6, y2_7, y2_8, y2_9, y2_10, by simp⟩)
      have hap : Apart wz2 b [] [w.heap.size, w.heap.size + 1, w.heap.size + 1 + 1 + 1, w.heap.size + 1 + 1 + 1 + 1] CL := ⟨by rw [hCL]; simp only [List.forall_mem_cons]; exact ⟨by simp, by simp, by simp, by simp, by simp, by simp, by simp, by simp, by simp, by simp, by simp, by simp⟩, by simp only [List.forall_mem_cons]; exact ⟨World.block_lt_of_cell? _ _ y2_0, World.block_lt_of_cell? _ _ y2_1, World.block_lt_of_cell? _ _ y2_5, World.block_lt_of_cell? _ _ y2_8, by simp⟩, by simp only [List.forall_mem_cons]; exact ⟨fr2_0, fr2_2, fr2_1, fr2_3, by simp⟩, by simp⟩
      refine Reg.wp_region (Reg.of 8 _ _ [.agg #[.iface 74 (.pointer (some ⟨b, 0, none⟩))], .agg #[.int .i32 (q0).v, .int .i32 (q1).v, .int .i32 (q2).v, .int .i32 (q3).v], .agg #[.iface 74 (.pointer (some ⟨b, 0, none⟩))], .agg #[.int .i32 (a0).v, .int .i32 (a1).v, .int .i32 (a2).v], .agg #[.int .i32 ((pointW (a0) (a1) (a2)).a).v, .int .i32 ((pointW (a0) (a1) (a2)).b).v, .int .i32 ((pointW (a0) (a1) (a2)).c).v], .agg #[.int .i32 ((pullW (q0) (q1) (q2) (q3) ((pointW (a0) (a1) (a2)).a) ((pointW (a0) (a1) (a2)).b) ((pointW (a0) (a1) (a2)).c)).a).v, .int .i32 ((pullW (q0) (q1) (q2) (q3) ((pointW (a0) (a1) (a2)).a) ((pointW (a0) (a1) (a2)).b) ((pointW (a0) (a1) (a2)).c)).b).v, .int .i32 ((pullW (q0) (q1) (q2) (q3) ((pointW (a0) (a1) (a2)).a) ((pointW (a0) (a1) (a2)).b) ((pointW (a0) (a1) (a2)).c)).c).v, .int .i32 ((pullW (q0) (q1) (q2) (q3) ((pointW (a0) (a1) (a2)).a) ((pointW (a0) (a1) (a2)).b) ((pointW (a0) (a1) (a2)).c)).d).v], undef, undef] [fun _ => undef, fun _ => undef, fun _ => undef, fun _ => undef, fun _ => undef, fun _ => undef, fun g => .pointer (some ⟨g, 0, none⟩), fun _ => undef] [.val, .val, .val, .val, .val, .val, .new 27 [.int .i32 0, .int .i32 0, .int .i32 0, .int .i32 0], .put 6 [.int .i32 ((pullW (q0) (q1) (q2) (q3) ((pointW (a0) (a1) (a2)).a) ((pointW (a0) (a1) (a2)).b) ((pointW (a0) (a1) (a2)).c)).a).v, .int .i32 ((pullW (q0) (q1) (q2) (q3) ((pointW (a0) (a1) (a2)).a) ((pointW (a0) (a1) (a2)).b) ((pointW (a0) (a1) (a2)).c)).b).v, .int .i32 ((pullW (q0) (q1) (q2) (q3) ((pointW (a0) (a1) (a2)).a) ((pointW (a0) (a1) (a2)).b) ((pointW (a0) (a1) (a2)).c)).c).v, .int .i32 ((pullW (q0) (q1) (q2) (q3) ((pointW (a0) (a1) (a2)).a) ((pointW (a0) (a1) (a2)).b) ((pointW (a0) (a1) (a2)).c)).d).v]] [] [] [4] (Sp wz2 b (fun k => most (n + k)) [] CL) (Fp wz2 b [] [w.heap.size, w.heap.size + 1, w.heap.size + 1 + 1 + 1, w.heap.size + 1 + 1 + 1 + 1])) (Reg.good_of _ 110 (by kernel_rfl) (by kernel_rfl)) (stands_p _ hap rfl rfl rfl) (by kernel_rfl) HS0 (hold_of (by kernel_rfl) ?holdwz3) (ne_of (by kernel_rfl) ?hnewz3) (Reg.steps_of _ rfl ⟨?_, ?_, ?_, ?_, ?_, ?_, ?_, ?_, trivial⟩) ?hendwz3
      case holdwz3 =>
        intro k T c hk; simp at hk
      case hnewz3 => intro i j hi hj hne; exact absurd hi (by simp)
      case hendwz3 =>
        intro wz3 γ hSz hBz hnez hOz
        replace hSz : Sp wz2 b (fun k => most (n + k)) [] CL 1 wz3 := hSz
        have nb6 : Blk wz3 (γ 6) 27 [.int .i32 ((pullW (q0) (q1) (q2) (q3) ((pointW (a0) (a1) (a2)).a) ((pointW (a0) (a1) (a2)).b) ((pointW (a0) (a1) (a2)).c)).a).v, .int .i32 ((pullW (q0) (q1) (q2) (q3) ((pointW (a0) (a1) (a2)).a) ((pointW (a0) (a1) (a2)).b) ((pointW (a0) (a1) (a2)).c)).b).v, .int .i32 ((pullW (q0) (q1) (q2) (q3) ((pointW (a0) (a1) (a2)).a) ((pointW (a0) (a1) (a2)).b) ((pointW (a0) (a1) (a2)).c)).c).v, .int .i32 ((pullW (q0) (q1) (q2) (q3) ((pointW (a0) (a1) (a2)).a) ((pointW (a0) (a1) (a2)).b) ((pointW (a0) (a1) (a2)).c)).d).v] := (hBz 6 27 [.int .i32 0, .int .i32 0, .int .i32 0, .int .i32 0] (by kernel_rfl) [.int .i32 ((pullW (q0) (q1) (q2) (q3) ((pointW (a0) (a1) (a2)).a) ((pointW (a0) (a1) (a2)).b) ((pointW (a0) (a1) (a2)).c)).a).v, .int .i32 ((pullW (q0) (q1) (q2) (q3) ((pointW (a0) (a1) (a2)).a) ((pointW (a0) (a1) (a2)).b) ((pointW (a0) (a1) (a2)).c)).b).v, .int .i32 ((pullW (q0) (q1) (q2) (q3) ((pointW (a0) (a1) (a2)).a) ((pointW (a0) (a1) (a2)).b) ((pointW (a0) (a1) (a2)).c)).c).v, .int .i32 ((pullW (q0) (q1) (q2) (q3) ((pointW (a0) (a1) (a2)).a) ((pointW (a0) (a1) (a2)).b) ((pointW (a0) (a1) (a2)).c)).d).v] (by kernel_rfl)).1
        have nf6 : Fp wz2 b [] [w.heap.size, w.heap.size + 1, w.heap.size + 1 + 1 + 1, w.heap.size + 1 + 1 + 1 + 1] wz3 (γ 6) := (hBz 6 27 [.int .i32 0, .int .i32 0, .int .i32 0, .int .i32 0] (by kernel_rfl) [.int .i32 ((pullW (q0) (q1) (q2) (q3) ((pointW (a0) (a1) (a2)).a) ((pointW (a0) (a1) (a2)).b) ((pointW (a0) (a1) (a2)).c)).a).v, .int .i32 ((pullW (q0) (q1) (q2) (q3) ((pointW (a0) (a1) (a2)).a) ((pointW (a0) (a1) (a2)).b) ((pointW (a0) (a1) (a2)).c)).b).v, .int .i32 ((pullW (q0) (q1) (q2) (q3) ((pointW (a0) (a1) (a2)).a) ((pointW (a0) (a1) (a2)).b) ((pointW (a0) (a1) (a2)).c)).c).v, .int .i32 ((pullW (q0) (q1) (q2) (q3) ((pointW (a0) (a1) (a2)).a) ((pointW (a0) (a1) (a2)).b) ((pointW (a0) (a1) (a2)).c)).d).v] (by kernel_rfl)).2.1
        refine end_of [(15, .pointer (some ⟨γ 6, 0, none⟩)), (32, .agg #[.iface 74 (.pointer (some ⟨b, 0, none⟩))]), (33, .agg #[.int .i32 (q0).v, .int .i32 (q1).v, .int .i32 (q2).v, .int .i32 (q3).v]), (34, .agg #[.iface 74 (.pointer (some ⟨b, 0, none⟩))]), (35, .agg #[.int .i32 (a0).v, .int .i32 (a1).v, .int .i32 (a2).v]), (36, .agg #[.int .i32 ((pointW (a0) (a1) (a2)).a).v, .int .i32 ((pointW (a0) (a1) (a2)).b).v, .int .i32 ((pointW (a0) (a1) (a2)).c).v]), (37, .agg #[.int .i32 ((pullW (q0) (q1) (q2) (q3) ((pointW (a0) (a1) (a2)).a) ((pointW (a0) (a1) (a2)).b) ((pointW (a0) (a1) (a2)).c)).a).v, .int .i32 ((pullW (q0) (q1) (q2) (q3) ((pointW (a0) (a1) (a2)).a) ((pointW (a0) (a1) (a2)).b) ((pointW (a0) (a1) (a2)).c)).b).v, .int .i32 ((pullW (q0) (q1) (q2) (q3) ((pointW (a0) (a1) (a2)).a) ((pointW (a0) (a1) (a2)).b) ((pointW (a0) (a1) (a2)).c)).c).v, .int .i32 ((pullW (q0) (q1) (q2) (q3) ((pointW (a0) (a1) (a2)).a) ((pointW (a0) (a1) (a2)).b) ((pointW (a0) (a1) (a2)).c)).d).v])] (by kernel_rfl) ?_
        clear hBz hnez hOz HS0
        simp only [Reg.of, List.foldl_cons, List.foldl_nil, List.setIfInBounds_toArray, List.set_cons_zero, List.set_cons_succ]
        generalize γ 6 = b6 at *
        have HC3 := hide (HC2.out.region hSz (by simp))
        have pl3 := hSz.pl
        have fr3_0 := hSz.apart hap (w.heap.size) (by simp)
        have fr3_1 := hSz.apart hap (w.heap.size + 1 + 1 + 1) (by simp)
        have fr3_2 := hSz.apart hap (w.heap.size + 1) (by simp)
        have fr3_3 := hSz.apart hap (w.heap.size + 1 + 1 + 1 + 1) (by simp)
        have y3_0 : wz3.cell? ⟨w.heap.size, 0, none⟩ = some (.iface 74 (.pointer (some ⟨b, 0, none⟩))) := hSz.at_ 0 _ _ (by rw [hCL]; rfl)
        have y3_1 : wz3.cell? ⟨w.heap.size + 1, 0, none⟩ = some (.int .i32 (q0).v) := hSz.at_ 1 _ _ (by rw [hCL]; rfl)
        have y3_2 : wz3.cell? ⟨w.heap.size + 1, 1, none⟩ = some (.int .i32 (q1).v) := hSz.at_ 2 _ _ (by rw [hCL]; rfl)
        have y3_3 : wz3.cell? ⟨w.heap.size + 1, 2, none⟩ = some (.int .i32 (q2).v) := hSz.at_ 3 _ _ (by rw [hCL]; rfl)
        have y3_4 : wz3.cell? ⟨w.heap.size + 1, 3, none⟩ = some (.int .i32 (q3).v) := hSz.at_ 4 _ _ (by rw [hCL]; rfl)
        have y3_5 : wz3.cell? ⟨w.heap.size + 1 + 1 + 1, 0, none⟩ = some (.int .i32 (a0).v) := hSz.at_ 5 _ _ (by rw [hCL]; rfl)
        have y3_6 : wz3.cell? ⟨w.heap.size + 1 + 1 + 1, 1, none⟩ = some (.int .i32 (a1).v) := hSz.at_ 6 _ _ (by rw [hCL]; rfl)
        have y3_7 : wz3.cell? ⟨w.heap.size + 1 + 1 + 1, 2, none⟩ = some (.int .i32 (a2).v) := hSz.at_ 7 _ _ (by rw [hCL]; rfl)
        have y3_8 : wz3.cell? ⟨w.heap.size + 1 + 1 + 1 + 1, 0, none⟩ = some (.int .i32 (v0).v) := hSz.at_ 8 _ _ (by rw [hCL]; rfl)
        have y3_9 : wz3.cell? ⟨w.heap.size + 1 + 1 + 1 + 1, 1, none⟩ = some (.int .i32 (v1).v) := hSz.at_ 9 _ _ (by rw [hCL]; rfl)
        have y3_10 : wz3.cell? ⟨w.heap.size + 1 + 1 + 1 + 1, 2, none⟩ = some (.int .i32 (v2).v) := hSz.at_ 10 _ _ (by rw [hCL]; rfl)
        have nx3_6_0 : b6 ≠ w.heap.size := fun h => nf6.1 (by rw [h]; simp)
        have nx3_6_1 : b6 ≠ w.heap.size + 1 := fun h => nf6.1 (by rw [h]; simp)
        have nx3_6_2 : b6 ≠ w.heap.size + 1 + 1 + 1 := fun h => nf6.1 (by rw [h]; simp)
        have nx3_6_3 : b6 ≠ w.heap.size + 1 + 1 + 1 + 1 := fun h => nf6.1 (by rw [h]; simp)
        have nk3_6_1 : b6 ≠ w.heap.size + 1 + 1 := by have h1 := m2.lt; rcases nf6.2.2 with h2 | h2 <;> first | omega | exact absurd h2 (by simp)
        have nk3_6_2 : b6 ≠ w.heap.size + 1 + 1 + 1 + 1 + 1 := by have h1 := m5.lt; rcases nf6.2.2 with h2 | h2 <;> first | omega | exact absurd h2 (by simp)
        have nl3_6 : w.heap.size ≤ b6 := by have h1 := HC2.out.chg.size; rcases nf6.2.2 with h2 | h2 <;> first | omega | exact absurd h2 (by simp)
        have frk3_1 := hSz.turn_far m2.lt frk2_1
        have frk3_2 := hSz.turn_far m5.lt frk2_2
        replace m1 := m1.chg hSz.chg (fun hm => by rcases List.mem_append.1 hm with h1 | h1 <;> first | exact fr2_2 h1 | exact absurd h1 (by simp) | exact absurd h1 (by simp; omega))
        replace m2 := m2.chg hSz.chg (fun hm => by rcases List.mem_append.1 hm with h1 | h1 <;> first | exact frk2_1 h1 | exact absurd h1 (by simp) | exact absurd h1 (by simp; omega))
        replace m5 := m5.chg hSz.chg (fun hm => by rcases List.mem_append.1 hm with h1 | h1 <;> first | exact frk2_2 h1 | exact absurd h1 (by simp) | exact absurd h1 (by simp; omega))
        clear hSz hCL hap CL y2_0 y2_1 y2_2 y2_3 y2_4 y2_5 y2_6 y2_7 y2_8 y2_9 y2_10 HC2  fr2_0 fr2_1 fr2_2 fr2_3 frk2_1 frk2_2 pl2
        generalize b6 = b3_6 at *
        have yn3_6_0 : wz3.cell? ⟨b3_6, 0, none⟩ = some (.int .i32 ((pullW (q0) (q1) (q2) (q3) ((pointW (a0) (a1) (a2)).a) ((pointW (a0) (a1) (a2)).b) ((pointW (a0) (a1) (a2)).c)).a).v) := nb6.cell' (i := 0) rfl
        have yn3_6_1 : wz3.cell? ⟨b3_6, 1, none⟩ = some (.int .i32 ((pullW (q0) (q1) (q2) (q3) ((pointW (a0) (a1) (a2)).a) ((pointW (a0) (a1) (a2)).b) ((pointW (a0) (a1) (a2)).c)).b).v) := nb6.cell' (i := 1) rfl
        have yn3_6_2 : wz3.cell? ⟨b3_6, 2, none⟩ = some (.int .i32 ((pullW (q0) (q1) (q2) (q3) ((pointW (a0) (a1) (a2)).a) ((pointW (a0) (a1) (a2)).b) ((pointW (a0) (a1) (a2)).c)).c).v) := nb6.cell' (i := 2) rfl
        have yn3_6_3 : wz3.cell? ⟨b3_6, 3, none⟩ = some (.int .i32 ((pullW (q0) (q1) (q2) (q3) ((pointW (a0) (a1) (a2)).a) ((pointW (a0) (a1) (a2)).b) ((pointW (a0) (a1) (a2)).c)).d).v) := nb6.cell' (i := 3) rfl
        have fn3_6 := nf6.2.1
        have HPB := nb6
        obtain ⟨P0, hP0⟩ : ∃ x, x = (sensedP q0 q1 q2 q3 a0 a1 a2).a := ⟨_, rfl⟩
        replace yn3_6_0 : wz3.cell? ⟨b3_6, 0, none⟩ = some (.int .i32 P0.v) := by rw [hP0]; exact yn3_6_0
        have HP0 := hide hP0
        clear hP0
        obtain ⟨P1, hP1⟩ : ∃ x, x = (sensedP q0 q1 q2 q3 a0 a1 a2).b := ⟨_, rfl⟩
        replace yn3_6_1 : wz3.cell? ⟨b3_6, 1, none⟩ = some (.int .i32 P1.v) := by rw [hP1]; exact yn3_6_1
        have HP1 := hide hP1
        clear hP1
        obtain ⟨P2, hP2⟩ : ∃ x, x = (sensedP q0 q1 q2 q3 a0 a1 a2).c := ⟨_, rfl⟩
        replace yn3_6_2 : wz3.cell? ⟨b3_6, 2, none⟩ = some (.int .i32 P2.v) := by rw [hP2]; exact yn3_6_2
        have HP2 := hide hP2
        clear hP2
        obtain ⟨P3, hP3⟩ : ∃ x, x = (sensedP q0 q1 q2 q3 a0 a1 a2).d := ⟨_, rfl⟩
        replace yn3_6_3 : wz3.cell? ⟨b3_6, 3, none⟩ = some (.int .i32 P3.v) := by rw [hP3]; exact yn3_6_3
        have HP3 := hide hP3
        clear hP3
        replace HPB : Blk wz3 b3_6 27 [.int .i32 P0.v, .int .i32 P1.v, .int .i32 P2.v, .int .i32 P3.v] := by rw [HP0.out, HP1.out, HP2.out, HP3.out]; exact HPB
        replace pl3 : PlR wz3 b (most (n + 1)) := pl3
        clear y3_5 y3_6 y3_7 fr3_1
        go_wp2_with fail
        obtain ⟨CL, hCL⟩ : ∃ l : List (Addr × Value), l = [(⟨w.heap.size, 0, none⟩, .iface 74 (.pointer (some ⟨b, 0, none⟩))), (⟨w.heap.size + 1, 0, none⟩, .int .i32 (q0).v), (⟨w.heap.size + 1, 1, none⟩, .int .i32 (q1).v), (⟨w.heap.size + 1, 2, none⟩, .int .i32 (q2).v), (⟨w.heap.size + 1, 3, none⟩, .int .i32 (q3).v), (⟨w.heap.size + 1 + 1 + 1 + 1, 0, none⟩, .int .i32 (v0).v), (⟨w.heap.size + 1 + 1 + 1 + 1, 1, none⟩, .int .i32 (v1).v), (⟨w.heap.size + 1 + 1 + 1 + 1, 2, none⟩, .int .i32 (v2).v), (⟨b3_6, 0, none⟩, .int .i32 (P0).v), (⟨b3_6, 1, none⟩, .int .i32 (P1).v), (⟨b3_6, 2, none⟩, .int .i32 (P2).v), (⟨b3_6, 3, none⟩, .int .i32 (P3).v)] := ⟨_, rfl⟩
        have HS0 : Sp wz3 b (fun k => most (n + 1 + k)) [] CL 0 wz3.drew := Sp.start pl3 (by rw [hCL]; simp only [List.forall_mem_cons]; exact ⟨y3_0, y3_1, y3_2, y3_3, y3_4, y3_8, y3_9, y3_10, yn3_6_0, yn3_6_1, yn3_6_2, yn3_6_3, by simp⟩)
        have hap : Apart wz3 b [] [b3_6, w.heap.size, w.heap.size + 1, w.heap.size + 1 + 1 + 1 + 1] CL := ⟨by rw [hCL]; simp only [List.forall_mem_cons]; exact ⟨by simp, by simp, by simp, by simp, by simp, by simp, by simp, by simp, by simp, by simp, by simp, by simp, by simp⟩, by simp only [List.forall_mem_cons]; exact ⟨World.block_lt_of_cell? _ _ yn3_6_0, World.block_lt_of_cell? _ _ y3_0, World.block_lt_of_cell? _ _ y3_1, World.block_lt_of_cell? _ _ y3_8, by simp⟩, by simp only [List.forall_mem_cons]; exact ⟨fn3_6, fr3_0, fr3_2, fr3_3, by simp⟩, by simp⟩
        refine Reg.wp_region (Reg.of 8 _ _ [.agg #[.iface 74 (.pointer (some ⟨b, 0, none⟩))], .agg #[.int .i32 (q0).v, .int .i32 (q1).v, .int .i32 (q2).v, .int .i32 (q3).v], .agg #[.iface 74 (.pointer (some ⟨b, 0, none⟩))], .agg #[.int .i32 (v0).v, .int .i32 (v1).v, .int .i32 (v2).v], .agg #[.int .i32 ((pointW (v0) (v1) (v2)).a).v, .int .i32 ((pointW (v0) (v1) (v2)).b).v, .int .i32 ((pointW (v0) (v1) (v2)).c).v], .agg #[.int .i32 ((fieldW (q0) (q1) (q2) (q3) ((pointW (v0) (v1) (v2)).a) ((pointW (v0) (v1) (v2)).b) ((pointW (v0) (v1) (v2)).c)).a).v, .int .i32 ((fieldW (q0) (q1) (q2) (q3) ((pointW (v0) (v1) (v2)).a) ((pointW (v0) (v1) (v2)).b) ((pointW (v0) (v1) (v2)).c)).b).v, .int .i32 ((fieldW (q0) (q1) (q2) (q3) ((pointW (v0) (v1) (v2)).a) ((pointW (v0) (v1) (v2)).b) ((pointW (v0) (v1) (v2)).c)).c).v, .int .i32 ((fieldW (q0) (q1) (q2) (q3) ((pointW (v0) (v1) (v2)).a) ((pointW (v0) (v1) (v2)).b) ((pointW (v0) (v1) (v2)).c)).d).v], undef, undef] [fun _ => undef, fun _ => undef, fun _ => undef, fun _ => undef, fun _ => undef, fun _ => undef, fun g => .pointer (some ⟨g, 0, none⟩), fun _ => undef] [.val, .val, .val, .val, .val, .val, .new 27 [.int .i32 0, .int .i32 0, .int .i32 0, .int .i32 0], .put 6 [.int .i32 ((fieldW (q0) (q1) (q2) (q3) ((pointW (v0) (v1) (v2)).a) ((pointW (v0) (v1) (v2)).b) ((pointW (v0) (v1) (v2)).c)).a).v, .int .i32 ((fieldW (q0) (q1) (q2) (q3) ((pointW (v0) (v1) (v2)).a) ((pointW (v0) (v1) (v2)).b) ((pointW (v0) (v1) (v2)).c)).b).v, .int .i32 ((fieldW (q0) (q1) (q2) (q3) ((pointW (v0) (v1) (v2)).a) ((pointW (v0) (v1) (v2)).b) ((pointW (v0) (v1) (v2)).c)).c).v, .int .i32 ((fieldW (q0) (q1) (q2) (q3) ((pointW (v0) (v1) (v2)).a) ((pointW (v0) (v1) (v2)).b) ((pointW (v0) (v1) (v2)).c)).d).v]] [] [] [4, 5] (Sp wz3 b (fun k => most (n + 1 + k)) [] CL) (Fp wz3 b [] [b3_6, w.heap.size, w.heap.size + 1, w.heap.size + 1 + 1 + 1 + 1])) (Reg.good_of _ 110 (by kernel_rfl) (by kernel_rfl)) (stands_p _ hap rfl rfl rfl) (by kernel_rfl) HS0 (hold_of (by kernel_rfl) ?holdwz4) (ne_of (by kernel_rfl) ?hnewz4) (Reg.steps_of _ rfl ⟨?_, ?_, ?_, ?_, ?_, ?_, ?_, ?_, trivial⟩) ?hendwz4
        case holdwz4 =>
          intro k T c hk; simp at hk
        case hnewz4 => intro i j hi hj hne; exact absurd hi (by simp)
        case hendwz4 =>
          intro wz4 γ hSz hBz hnez hOz
          replace hSz : Sp wz3 b (fun k => most (n + 1 + k)) [] CL 2 wz4 := hSz
          have nb6 : Blk wz4 (γ 6) 27 [.int .i32 ((fieldW (q0) (q1) (q2) (q3) ((pointW (v0) (v1) (v2)).a) ((pointW (v0) (v1) (v2)).b) ((pointW (v0) (v1) (v2)).c)).a).v, .int .i32 ((fieldW (q0) (q1) (q2) (q3) ((pointW (v0) (v1) (v2)).a) ((pointW (v0) (v1) (v2)).b) ((pointW (v0) (v1) (v2)).c)).b).v, .int .i32 ((fieldW (q0) (q1) (q2) (q3) ((pointW (v0) (v1) (v2)).a) ((pointW (v0) (v1) (v2)).b) ((pointW (v0) (v1) (v2)).c)).c).v, .int .i32 ((fieldW (q0) (q1) (q2) (q3) ((pointW (v0) (v1) (v2)).a) ((pointW (v0) (v1) (v2)).b) ((pointW (v0) (v1) (v2)).c)).d).v] := (hBz 6 27 [.int .i32 0, .int .i32 0, .int .i32 0, .int .i32 0] (by kernel_rfl) [.int .i32 ((fieldW (q0) (q1) (q2) (q3) ((pointW (v0) (v1) (v2)).a) ((pointW (v0) (v1) (v2)).b) ((pointW (v0) (v1) (v2)).c)).a).v, .int .i32 ((fieldW (q0) (q1) (q2) (q3) ((pointW (v0) (v1) (v2)).a) ((pointW (v0) (v1) (v2)).b) ((pointW (v0) (v1) (v2)).c)).b).v, .int .i32 ((fieldW (q0) (q1) (q2) (q3) ((pointW (v0) (v1) (v2)).a) ((pointW (v0) (v1) (v2)).b) ((pointW (v0) (v1) (v2)).c)).c).v, .int .i32 ((fieldW (q0) (q1) (q2) (q3) ((pointW (v0) (v1) (v2)).a) ((pointW (v0) (v1) (v2)).b) ((pointW (v0) (v1) (v2)).c)).d).v] (by kernel_rfl)).1
          have nf6 : Fp wz3 b [] [b3_6, w.heap.size, w.heap.size + 1, w.heap.size + 1 + 1 + 1 + 1] wz4 (γ 6) := (hBz 6 27 [.int .i32 0, .int .i32 0, .int .i32 0, .int .i32 0] (by kernel_rfl) [.int .i32 ((fieldW (q0) (q1) (q2) (q3) ((pointW (v0) (v1) (v2)).a) ((pointW (v0) (v1) (v2)).b) ((pointW (v0) (v1) (v2)).c)).a).v, .int .i32 ((fieldW (q0) (q1) (q2) (q3) ((pointW (v0) (v1) (v2)).a) ((pointW (v0) (v1) (v2)).b) ((pointW (v0) (v1) (v2)).c)).b).v, .int .i32 ((fieldW (q0) (q1) (q2) (q3) ((pointW (v0) (v1) (v2)).a) ((pointW (v0) (v1) (v2)).b) ((pointW (v0) (v1) (v2)).c)).c).v, .int .i32 ((fieldW (q0) (q1) (q2) (q3) ((pointW (v0) (v1) (v2)).a) ((pointW (v0) (v1) (v2)).b) ((pointW (v0) (v1) (v2)).c)).d).v] (by kernel_rfl)).2.1
          refine end_of [(16, .pointer (some ⟨γ 6, 0, none⟩)), (38, .agg #[.iface 74 (.pointer (some ⟨b, 0, none⟩))]), (39, .agg #[.int .i32 (q0).v, .int .i32 (q1).v, .int .i32 (q2).v, .int .i32 (q3).v]), (40, .agg #[.iface 74 (.pointer (some ⟨b, 0, none⟩))]), (41, .agg #[.int .i32 (v0).v, .int .i32 (v1).v, .int .i32 (v2).v]), (42, .agg #[.int .i32 ((pointW (v0) (v1) (v2)).a).v, .int .i32 ((pointW (v0) (v1) (v2)).b).v, .int .i32 ((pointW (v0) (v1) (v2)).c).v]), (43, .agg #[.int .i32 ((fieldW (q0) (q1) (q2) (q3) ((pointW (v0) (v1) (v2)).a) ((pointW (v0) (v1) (v2)).b) ((pointW (v0) (v1) (v2)).c)).a).v, .int .i32 ((fieldW (q0) (q1) (q2) (q3) ((pointW (v0) (v1) (v2)).a) ((pointW (v0) (v1) (v2)).b) ((pointW (v0) (v1) (v2)).c)).b).v, .int .i32 ((fieldW (q0) (q1) (q2) (q3) ((pointW (v0) (v1) (v2)).a) ((pointW (v0) (v1) (v2)).b) ((pointW (v0) (v1) (v2)).c)).c).v, .int .i32 ((fieldW (q0) (q1) (q2) (q3) ((pointW (v0) (v1) (v2)).a) ((pointW (v0) (v1) (v2)).b) ((pointW (v0) (v1) (v2)).c)).d).v])] (by kernel_rfl) ?_
          clear hBz hnez hOz HS0
          simp only [Reg.of, List.foldl_cons, List.foldl_nil, List.setIfInBounds_toArray, List.set_cons_zero, List.set_cons_succ]
          generalize γ 6 = b6 at *
          have HC4 := hide (HC3.out.region hSz (by simp))
          have pl4 := hSz.pl
          have fr4_0 := hSz.apart hap (w.heap.size) (by simp)
          have fr4_1 := hSz.apart hap (w.heap.size + 1) (by simp)
          have fr4_2 := hSz.apart hap (w.heap.size + 1 + 1 + 1 + 1) (by simp)
          have fr4_3 := hSz.apart hap (b3_6) (by simp)
          have y4_0 : wz4.cell? ⟨w.heap.size, 0, none⟩ = some (.iface 74 (.pointer (some ⟨b, 0, none⟩))) := hSz.at_ 0 _ _ (by rw [hCL]; rfl)
          have y4_1 : wz4.cell? ⟨w.heap.size + 1, 0, none⟩ = some (.int .i32 (q0).v) := hSz.at_ 1 _ _ (by rw [hCL]; rfl)
          have y4_2 : wz4.cell? ⟨w.heap.size + 1, 1, none⟩ = some (.int .i32 (q1).v) := hSz.at_ 2 _ _ (by rw [hCL]; rfl)
          have y4_3 : wz4.cell? ⟨w.heap.size + 1, 2, none⟩ = some (.int .i32 (q2).v) := hSz.at_ 3 _ _ (by rw [hCL]; rfl)
          have y4_4 : wz4.cell? ⟨w.heap.size + 1, 3, none⟩ = some (.int .i32 (q3).v) := hSz.at_ 4 _ _ (by rw [hCL]; rfl)
          have y4_5 : wz4.cell? ⟨w.heap.size + 1 + 1 + 1 + 1, 0, none⟩ = some (.int .i32 (v0).v) := hSz.at_ 5 _ _ (by rw [hCL]; rfl)
          have y4_6 : wz4.cell? ⟨w.heap.size + 1 + 1 + 1 + 1, 1, none⟩ = some (.int .i32 (v1).v) := hSz.at_ 6 _ _ (by rw [hCL]; rfl)
          have y4_7 : wz4.cell? ⟨w.heap.size + 1 + 1 + 1 + 1, 2, none⟩ = some (.int .i32 (v2).v) := hSz.at_ 7 _ _ (by rw [hCL]; rfl)
          have y4_8 : wz4.cell? ⟨b3_6, 0, none⟩ = some (.int .i32 (P0).v) := hSz.at_ 8 _ _ (by rw [hCL]; rfl)
          have y4_9 : wz4.cell? ⟨b3_6, 1, none⟩ = some (.int .i32 (P1).v) := hSz.at_ 9 _ _ (by rw [hCL]; rfl)
          have y4_10 : wz4.cell? ⟨b3_6, 2, none⟩ = some (.int .i32 (P2).v) := hSz.at_ 10 _ _ (by rw [hCL]; rfl)
          have y4_11 : wz4.cell? ⟨b3_6, 3, none⟩ = some (.int .i32 (P3).v) := hSz.at_ 11 _ _ (by rw [hCL]; rfl)
          have nx4_6_0 : b6 ≠ w.heap.size := fun h => nf6.1 (by rw [h]; simp)
          have nx4_6_1 : b6 ≠ w.heap.size + 1 := fun h => nf6.1 (by rw [h]; simp)
          have nx4_6_2 : b6 ≠ w.heap.size + 1 + 1 + 1 + 1 := fun h => nf6.1 (by rw [h]; simp)
          have nx4_6_3 : b6 ≠ b3_6 := fun h => nf6.1 (by rw [h]; simp)
          have nk4_6_1 : b6 ≠ w.heap.size + 1 + 1 := by have h1 := m2.lt; rcases nf6.2.2 with h2 | h2 <;> first | omega | exact absurd h2 (by simp)
          have nk4_6_2 : b6 ≠ w.heap.size + 1 + 1 + 1 + 1 + 1 := by have h1 := m5.lt; rcases nf6.2.2 with h2 | h2 <;> first | omega | exact absurd h2 (by simp)
          have nl4_6 : w.heap.size ≤ b6 := by have h1 := HC3.out.chg.size; rcases nf6.2.2 with h2 | h2 <;> first | omega | exact absurd h2 (by simp)
          have frk4_1 := hSz.turn_far m2.lt frk3_1
          have frk4_2 := hSz.turn_far m5.lt frk3_2
          replace m1 := m1.chg hSz.chg (fun hm => by rcases List.mem_append.1 hm with h1 | h1 <;> first | exact fr3_2 h1 | exact absurd h1 (by simp) | exact absurd h1 (by simp; omega))
          replace m2 := m2.chg hSz.chg (fun hm => by rcases List.mem_append.1 hm with h1 | h1 <;> first | exact frk3_1 h1 | exact absurd h1 (by simp) | exact absurd h1 (by simp; omega))
          replace m5 := m5.chg hSz.chg (fun hm => by rcases List.mem_append.1 hm with h1 | h1 <;> first | exact frk3_2 h1 | exact absurd h1 (by simp) | exact absurd h1 (by simp; omega))
          replace HPB := HPB.chg hSz.chg (fun hm => by rcases List.mem_append.1 hm with h1 | h1 <;> first | exact fn3_6 h1 | exact absurd h1 (by simp) | exact absurd h1 (by simp; omega))
          clear hSz hCL hap CL y3_0 y3_1 y3_2 y3_3 y3_4 y3_8 y3_9 y3_10 yn3_6_0 yn3_6_1 yn3_6_2 yn3_6_3 HC3  fr3_0 fr3_2 fr3_3 fn3_6 frk3_1 frk3_2 pl3
          generalize b6 = b4_6 at *
          have yn4_6_0 : wz4.cell? ⟨b4_6, 0, none⟩ = some (.int .i32 ((fieldW (q0) (q1) (q2) (q3) ((pointW (v0) (v1) (v2)).a) ((pointW (v0) (v1) (v2)).b) ((pointW (v0) (v1) (v2)).c)).a).v) := nb6.cell' (i := 0) rfl
          have yn4_6_1 : wz4.cell? ⟨b4_6, 1, none⟩ = some (.int .i32 ((fieldW (q0) (q1) (q2) (q3) ((pointW (v0) (v1) (v2)).a) ((pointW (v0) (v1) (v2)).b) ((pointW (v0) (v1) (v2)).c)).b).v) := nb6.cell' (i := 1) rfl
          have yn4_6_2 : wz4.cell? ⟨b4_6, 2, none⟩ = some (.int .i32 ((fieldW (q0) (q1) (q2) (q3) ((pointW (v0) (v1) (v2)).a) ((pointW (v0) (v1) (v2)).b) ((pointW (v0) (v1) (v2)).c)).c).v) := nb6.cell' (i := 2) rfl
          have yn4_6_3 : wz4.cell? ⟨b4_6, 3, none⟩ = some (.int .i32 ((fieldW (q0) (q1) (q2) (q3) ((pointW (v0) (v1) (v2)).a) ((pointW (v0) (v1) (v2)).b) ((pointW (v0) (v1) (v2)).c)).d).v) := nb6.cell' (i := 3) rfl
          have fn4_6 := nf6.2.1
          obtain ⟨N0, hN0⟩ : ∃ x, x = (sensedN q0 q1 q2 q3 v0 v1 v2).a := ⟨_, rfl⟩
          replace yn4_6_0 : wz4.cell? ⟨b4_6, 0, none⟩ = some (.int .i32 N0.v) := by rw [hN0]; exact yn4_6_0
          have HN0 := hide hN0
          clear hN0
          obtain ⟨N1, hN1⟩ : ∃ x, x = (sensedN q0 q1 q2 q3 v0 v1 v2).b := ⟨_, rfl⟩
          replace yn4_6_1 : wz4.cell? ⟨b4_6, 1, none⟩ = some (.int .i32 N1.v) := by rw [hN1]; exact yn4_6_1
          have HN1 := hide hN1
          clear hN1
          obtain ⟨N2, hN2⟩ : ∃ x, x = (sensedN q0 q1 q2 q3 v0 v1 v2).c := ⟨_, rfl⟩
          replace yn4_6_2 : wz4.cell? ⟨b4_6, 2, none⟩ = some (.int .i32 N2.v) := by rw [hN2]; exact yn4_6_2
          have HN2 := hide hN2
          clear hN2
          obtain ⟨N3, hN3⟩ : ∃ x, x = (sensedN q0 q1 q2 q3 v0 v1 v2).d := ⟨_, rfl⟩
          replace yn4_6_3 : wz4.cell? ⟨b4_6, 3, none⟩ = some (.int .i32 N3.v) := by rw [hN3]; exact yn4_6_3
          have HN3 := hide hN3
          clear hN3
          replace pl4 : PlR wz4 b (most (n + 3)) := pl4
          clear y4_5 y4_6 y4_7 fr4_2
          go_wp2_with fail
          obtain ⟨LN5, hLN5⟩ : ∃ l : List Value, l = [.int .i32 (addsW P0 (andW N0 (sensedM v0 v1 v2))).v, .int .i32 (addsW P1 (andW N1 (sensedM v0 v1 v2))).v, .int .i32 (addsW P2 (andW N2 (sensedM v0 v1 v2))).v, .int .i32 (addsW P3 (andW N3 (sensedM v0 v1 v2))).v] := ⟨_, rfl⟩
          obtain ⟨LO5, hLO5⟩ : ∃ l : List Value, l = [.int .i32 (P0).v, .int .i32 (P1).v, .int .i32 (P2).v, .int .i32 (P3).v] := ⟨_, rfl⟩
          have HLN5 := hide hLN5
          have HLO5 := hide hLO5
          clear hLN5 hLO5
          have HB5 : Hid (Blk wz4 (b3_6) 27 (LN5.take 0 ++ LO5.drop 0)) := hide (by rw [HLN5.out, HLO5.out]; exact HPB)
          have HQ5 : Hid (Chg wz4 wz4 [b3_6]) := hide (Chg.refl _ _)
          go_loopw [44] (fun i wr => ∃ k : Nat, k ≤ 4 ∧ i = .int .i64 k ∧ Hid (Chg wz4 wr [b3_6]) ∧ Hid (Blk wr (b3_6) 27 (LN5.take k ++ LO5.drop k))) (fun i _ => 4 - (intOf i).toNat)
          case atStart => exact ⟨0, Nat.zero_le _, rfl, HQ5, HB5⟩
          case round =>
            obtain ⟨k, hk, rfl, HQ, HB⟩ := hrel
            have yr0 := HQ.out.cell y4_0 (by simp; try omega)
            have yr1 := HQ.out.cell y4_1 (by simp; try omega)
            have yr2 := HQ.out.cell y4_2 (by simp; try omega)
            have yr3 := HQ.out.cell y4_3 (by simp; try omega)
            have yr4 := HQ.out.cell y4_4 (by simp; try omega)
            have yr5 := HQ.out.cell yn4_6_0 (by simp; try omega)
            have yr6 := HQ.out.cell yn4_6_1 (by simp; try omega)
            have yr7 := HQ.out.cell yn4_6_2 (by simp; try omega)
            have yr8 := HQ.out.cell yn4_6_3 (by simp; try omega)
            rcases (by omega : k = 0 ∨ k = 1 ∨ k = 2 ∨ k = 3 ∨ k = 4) with rfl | rfl | rfl | rfl | rfl
            · have mo : Blk wr (b3_6) 27 [.int .i32 (P0).v, .int .i32 (P1).v, .int .i32 (P2).v, .int .i32 (P3).v] := by have h := HB.out; rw [HLN5.out, HLO5.out] at h; exact h
              clear HB HB5 HQ5 yr1 yr2 yr3 yr4 y4_0 y4_1 y4_2 y4_3 y4_4 y4_8 y4_9 y4_10 y4_11 yn4_6_0 yn4_6_1 yn4_6_2 yn4_6_3 fr4_0 fr4_1 fr4_3 fn4_6 frk4_1 frk4_2  pl4 HC4  m1 m2 m5 HPB
              go_wp2_with fail
              obtain ⟨CL, hCL⟩ : ∃ l : List (Addr × Value), l = [(⟨w.heap.size, 0, none⟩, .iface 74 (.pointer (some ⟨b, 0, none⟩))), (⟨b4_6, 0, none⟩, .int .i32 (N0).v), (⟨b4_6, 1, none⟩, .int .i32 (N1).v), (⟨b4_6, 2, none⟩, .int .i32 (N2).v), (⟨b4_6, 3, none⟩, .int .i32 (N3).v)] := ⟨_, rfl⟩
              have HS0 : Sd wr [b3_6] CL wr.drew := ⟨(Chg.refl wr _).drew, by rw [hCL]; simp only [List.forall_mem_cons]; exact ⟨yr0, yr5, yr6, yr7, yr8, by simp⟩⟩
              have hU0 : ∀ p ∈ CL, p.1.block ∈ ([b4_6, w.heap.size] : List Nat) := by rw [hCL]; simp only [List.forall_mem_cons]; exact ⟨by simp, by simp, by simp, by simp, by simp, by simp⟩
              have hlt0 : ∀ u ∈ ([b4_6, w.heap.size] : List Nat), u < wr.heap.size := by simp only [List.forall_mem_cons]; exact ⟨World.block_lt_of_cell? _ _ yr5, World.block_lt_of_cell? _ _ yr0, by simp⟩
              refine Reg.wp_region (Reg.of 14 _ _ [.int .i64 0, .agg #[.iface 74 (.pointer (some ⟨b, 0, none⟩))], .int .i64 0, .pointer (some ⟨b3_6, 0, none⟩), .int .i32 (P0).v, .agg #[.iface 74 (.pointer (some ⟨b, 0, none⟩))], .int .i64 0, .pointer (some ⟨b4_6, 0, none⟩), .int .i32 (N0).v, .int .i32 (sensedM v0 v1 v2).v, .int .i32 (andW (N0) (sensedM v0 v1 v2)).v, .int .i32 (addsW (P0) (andW (N0) (sensedM v0 v1 v2))).v, .pointer (some ⟨b3_6, 0, none⟩), undef] [fun _ => undef, fun _ => undef, fun _ => undef, fun _ => undef, fun _ => undef, fun _ => undef, fun _ => undef, fun _ => undef, fun _ => undef, fun _ => undef, fun _ => undef, fun _ => undef, fun _ => undef, fun _ => undef] [.val, .val, .val, .val, .val, .val, .val, .val, .val, .val, .val, .val, .val, .put 14 [.int .i32 (addsW (P0) (andW (N0) (sensedM v0 v1 v2))).v, .int .i32 (P1).v, .int .i32 (P2).v, .int .i32 (P3).v]] [(27, [.int .i32 (P0).v, .int .i32 (P1).v, .int .i32 (P2).v, .int .i32 (P3).v])] [b3_6] [] (fun _ => Sd wr [b3_6] CL) (Fd wr [b3_6] [b4_6, w.heap.size])) (Reg.good_of _ 110 (by kernel_rfl) (by kernel_rfl)) (stands_d _ wr [b3_6] [b4_6, w.heap.size] CL rfl rfl rfl hU0 hlt0) (by kernel_rfl) HS0 (hold_of (by kernel_rfl) ?holdwz5101) (ne_of (by kernel_rfl) ?hnewz5101) (Reg.steps_of _ rfl ⟨?_, ?_, ?_, ?_, ?_, ?_, ?_, ?_, ?_, ?_, ?_, ?_, ?_, ?_, trivial⟩) ?hendwz5101
              case holdwz5101 =>
                intro k T c hk
                cases k with
                | zero => simp only [List.getElem?_cons_zero, Option.some.injEq, Prod.mk.injEq] at hk; obtain ⟨rfl, rfl⟩ := hk; exact ⟨mo, ⟨by simp; try omega, .inl (by simp)⟩⟩
                | succ k =>
                  simp at hk
              case hnewz5101 => intro i j hi hj hne; simp at hi hj; omega
              case hendwz5101 =>
                intro wz5101 γ hSz hBz hnez hOz
                replace hSz : Sd wr [b3_6] CL wz5101 := hSz
                have ob0 : Blk wz5101 (b3_6) 27 [.int .i32 (addsW (P0) (andW (N0) (sensedM v0 v1 v2))).v, .int .i32 (P1).v, .int .i32 (P2).v, .int .i32 (P3).v] := by have h := (hBz 14 27 [.int .i32 (P0).v, .int .i32 (P1).v, .int .i32 (P2).v, .int .i32 (P3).v] (by kernel_rfl) [.int .i32 (addsW (P0) (andW (N0) (sensedM v0 v1 v2))).v, .int .i32 (P1).v, .int .i32 (P2).v, .int .i32 (P3).v] (by kernel_rfl)).1; rw [hOz 14 (Nat.le_trans (Nat.le_of_eq (by kernel_rfl : _ = 14)) (by decide : 14 ≤ 14))] at h; exact h
                refine end_of [(47, .int .i64 0), (48, .agg #[.iface 74 (.pointer (some ⟨b, 0, none⟩))]), (49, .int .i64 0), (50, .pointer (some ⟨b3_6, 0, none⟩)), (51, .int .i32 (P0).v), (52, .agg #[.iface 74 (.pointer (some ⟨b, 0, none⟩))]), (53, .int .i64 0), (54, .pointer (some ⟨b4_6, 0, none⟩)), (55, .int .i32 (N0).v), (56, .int .i32 (sensedM v0 v1 v2).v), (57, .int .i32 (andW (N0) (sensedM v0 v1 v2)).v), (58, .int .i32 (addsW (P0) (andW (N0) (sensedM v0 v1 v2))).v), (59, .pointer (some ⟨b3_6, 0, none⟩))] (by kernel_rfl) ?_
                clear hBz hnez hOz HS0 hU0
                simp only [Reg.of, List.foldl_cons, List.foldl_nil, List.setIfInBounds_toArray, List.set_cons_zero, List.set_cons_succ]
                have HC5101 := hide (HQ.out.trans hSz.chg (D := [b3_6]) (by simp))
                have y5101_0 : wz5101.cell? ⟨w.heap.size, 0, none⟩ = some (.iface 74 (.pointer (some ⟨b, 0, none⟩))) := hSz.at_ 0 _ _ (by rw [hCL]; rfl)
                have y5101_1 : wz5101.cell? ⟨b4_6, 0, none⟩ = some (.int .i32 (N0).v) := hSz.at_ 1 _ _ (by rw [hCL]; rfl)
                have y5101_2 : wz5101.cell? ⟨b4_6, 1, none⟩ = some (.int .i32 (N1).v) := hSz.at_ 2 _ _ (by rw [hCL]; rfl)
                have y5101_3 : wz5101.cell? ⟨b4_6, 2, none⟩ = some (.int .i32 (N2).v) := hSz.at_ 3 _ _ (by rw [hCL]; rfl)
                have y5101_4 : wz5101.cell? ⟨b4_6, 3, none⟩ = some (.int .i32 (N3).v) := hSz.at_ 4 _ _ (by rw [hCL]; rfl)
                clear hSz hCL hlt0 CL yr0 yr5 yr6 yr7 yr8 HQ mo
                have mo5101_0 := ob0
                clear ob0
                go_wp2
                go_roundw
                case rel => exact ⟨1, by omega, by go_num, HC5101, hide (by rw [HLN5.out, HLO5.out]; exact mo5101_0)⟩
                case measure => simp [intOf]
              · intro a wu γ nph K hp hK
                obtain ⟨e17a, e17b⟩ := hp.old_ 17 (.int .i64 0)
                have hk := hK.pure (.int .i64 0) hp.S
                clear hp hK
                go_simp
                exact hk
              · intro a wu γ nph K hp hK
                obtain ⟨e5a, e5b⟩ := hp.old_ 5 (.pointer (some ⟨w.heap.size, 0, none⟩))
                have hS : Sd wr [b3_6] CL wu := hp.S
                have c0 := hS.at_ 0 ⟨w.heap.size, 0, none⟩ (.iface 74 (.pointer (some ⟨b, 0, none⟩))) (by rw [hCL]; rfl)
                have hk := hK.pure (.agg #[.iface 74 (.pointer (some ⟨b, 0, none⟩))]) hp.S
                clear hp hK hS
                go_simp
                exact hk
              · intro a wu γ nph K hp hK
                obtain ⟨e17a, e17b⟩ := hp.old_ 17 (.int .i64 0)
                have hk := hK.pure (.int .i64 0) hp.S
                clear hp hK
                go_simp
                exact hk
              · intro a wu γ nph K hp hK
                obtain ⟨e15a, e15b⟩ := hp.old_ 15 (.pointer (some ⟨b3_6, 0, none⟩))
                obtain ⟨e49a, e49b⟩ := hp.dep_ 49 2 (.int .i64 0)
                have hk := hK.pure (.pointer (some ⟨b3_6, 0, none⟩)) hp.S
                clear hp hK
                go_simp
                exact hk
              · intro a wu γ nph K hp hK
                obtain ⟨e50a, e50b⟩ := hp.dep_ 50 3 (.pointer (some ⟨b3_6, 0, none⟩))
                have hbo0_0 := (hp.blk_ 14 (T := 27) (c := [.int .i32 (P0).v, .int .i32 (P1).v, .int .i32 (P2).v, .int .i32 (P3).v])).1
                rw [hp.old 14 (Nat.le_trans (Nat.le_of_eq (by kernel_rfl : _ = 14)) (by decide : 14 ≤ 14))] at hbo0_0
                have co0_0 : wu.cell? ⟨b3_6, 0, none⟩ = some (.int .i32 (P0).v) := hbo0_0.cell' (i := 0) rfl
                have hk := hK.pure (.int .i32 (P0).v) hp.S
                clear hp hK
                go_simp
                exact hk
              · intro a wu γ nph K hp hK
                obtain ⟨e5a, e5b⟩ := hp.old_ 5 (.pointer (some ⟨w.heap.size, 0, none⟩))
                have hS : Sd wr [b3_6] CL wu := hp.S
                have c0 := hS.at_ 0 ⟨w.heap.size, 0, none⟩ (.iface 74 (.pointer (some ⟨b, 0, none⟩))) (by rw [hCL]; rfl)
                have hk := hK.pure (.agg #[.iface 74 (.pointer (some ⟨b, 0, none⟩))]) hp.S
                clear hp hK hS
                go_simp
                exact hk
              · intro a wu γ nph K hp hK
                obtain ⟨e17a, e17b⟩ := hp.old_ 17 (.int .i64 0)
                have hk := hK.pure (.int .i64 0) hp.S
                clear hp hK
                go_simp
                exact hk
              · intro a wu γ nph K hp hK
                obtain ⟨e16a, e16b⟩ := hp.old_ 16 (.pointer (some ⟨b4_6, 0, none⟩))
                obtain ⟨e53a, e53b⟩ := hp.dep_ 53 6 (.int .i64 0)
                have hk := hK.pure (.pointer (some ⟨b4_6, 0, none⟩)) hp.S
                clear hp hK
                go_simp
                exact hk
              · intro a wu γ nph K hp hK
                obtain ⟨e54a, e54b⟩ := hp.dep_ 54 7 (.pointer (some ⟨b4_6, 0, none⟩))
                have hS : Sd wr [b3_6] CL wu := hp.S
                have c1 := hS.at_ 1 ⟨b4_6, 0, none⟩ (.int .i32 (N0).v) (by rw [hCL]; rfl)
                have hk := hK.pure (.int .i32 (N0).v) hp.S
                clear hp hK hS
                go_simp
                exact hk
              · intro a wu γ nph K hp hK
                obtain ⟨e14a, e14b⟩ := hp.old_ 14 (.int .i32 (sensedM v0 v1 v2).v)
                have hk := hK.pure (.int .i32 (sensedM v0 v1 v2).v) hp.S
                clear hp hK
                go_simp
                exact hk
              · intro a wu γ nph K hp hK
                obtain ⟨e52a, e52b⟩ := hp.dep_ 52 5 (.agg #[.iface 74 (.pointer (some ⟨b, 0, none⟩))])
                obtain ⟨e55a, e55b⟩ := hp.dep_ 55 8 (.int .i32 (N0).v)
                obtain ⟨e56a, e56b⟩ := hp.dep_ 56 9 (.int .i32 (sensedM v0 v1 v2).v)
                have hS : Sd wr [b3_6] CL wu := hp.S
                have hk := hK.call (.int .i32 (andW (N0) (sensedM v0 v1 v2)).v)
                clear hp hK
                go_simp
                refine (w_and _ _ _ _).mono ?_
                rintro e w7 ⟨rfl, hcX⟩
                exact hk _ (hS.call hcX) (Reg.keep_call _ rfl hcX)
              · intro a wu γ nph K hp hK
                obtain ⟨e48a, e48b⟩ := hp.dep_ 48 1 (.agg #[.iface 74 (.pointer (some ⟨b, 0, none⟩))])
                obtain ⟨e51a, e51b⟩ := hp.dep_ 51 4 (.int .i32 (P0).v)
                obtain ⟨e57a, e57b⟩ := hp.dep_ 57 10 (.int .i32 (andW (N0) (sensedM v0 v1 v2)).v)
                have hS : Sd wr [b3_6] CL wu := hp.S
                have hk := hK.call (.int .i32 (addsW (P0) (andW (N0) (sensedM v0 v1 v2))).v)
                clear hp hK
                go_simp
                refine (w_adds _ _ _ _).mono ?_
                rintro e w7 ⟨rfl, hcX⟩
                exact hk _ (hS.call hcX) (Reg.keep_call _ rfl hcX)
              · intro a wu γ nph K hp hK
                obtain ⟨e15a, e15b⟩ := hp.old_ 15 (.pointer (some ⟨b3_6, 0, none⟩))
                obtain ⟨e47a, e47b⟩ := hp.dep_ 47 0 (.int .i64 0)
                have hk := hK.pure (.pointer (some ⟨b3_6, 0, none⟩)) hp.S
                clear hp hK
                go_simp
                exact hk
              · intro a wu γ nph K hp hK
                obtain ⟨e59a, e59b⟩ := hp.dep_ 59 12 (.pointer (some ⟨b3_6, 0, none⟩))
                obtain ⟨e58a, e58b⟩ := hp.dep_ 58 11 (.int .i32 (addsW (P0) (andW (N0) (sensedM v0 v1 v2))).v)
                have hb := (hp.blk_ 14 (T := 27) (c := [.int .i32 (P0).v, .int .i32 (P1).v, .int .i32 (P2).v, .int .i32 (P3).v])).1
                have hk := hK.put 14 27 [.int .i32 (P0).v, .int .i32 (P1).v, .int .i32 (P2).v, .int .i32 (P3).v] [.int .i32 (addsW (P0) (andW (N0) (sensedM v0 v1 v2))).v, .int .i32 (P1).v, .int .i32 (P2).v, .int .i32 (P3).v]
                have hO : γ 14 = b3_6 := hp.old 14 (Nat.le_trans (Nat.le_of_eq (by kernel_rfl : _ = 14)) (by decide : 14 ≤ 14))
                rw [hO] at hb hk
                have z0 := hb.cell' (i := 0) rfl
                have f0 := hb.frozen 0
                clear hp hK
                clear hO
                go_simp
                exact hk _ (hb.set_ 0 _) ((Chg.refl wu _).setCell _ _ (.inl (by simp))) (by simp)
            · have mo : Blk wr (b3_6) 27 [.int .i32 (addsW P0 (andW N0 (sensedM v0 v1 v2))).v, .int .i32 (P1).v, .int .i32 (P2).v, .int .i32 (P3).v] := by have h := HB.out; rw [HLN5.out, HLO5.out] at h; exact h
              clear HB HB5 HQ5 yr1 yr2 yr3 yr4 y4_0 y4_1 y4_2 y4_3 y4_4 y4_8 y4_9 y4_10 y4_11 yn4_6_0 yn4_6_1 yn4_6_2 yn4_6_3 fr4_0 fr4_1 fr4_3 fn4_6 frk4_1 frk4_2  pl4 HC4  m1 m2 m5 HPB
              go_wp2_with fail
              obtain ⟨CL, hCL⟩ : ∃ l : List (Addr × Value), l = [(⟨w.heap.size, 0, none⟩, .iface 74 (.pointer (some ⟨b, 0, none⟩))), (⟨b4_6, 0, none⟩, .int .i32 (N0).v), (⟨b4_6, 1, none⟩, .int .i32 (N1).v), (⟨b4_6, 2, none⟩, .int .i32 (N2).v), (⟨b4_6, 3, none⟩, .int .i32 (N3).v)] := ⟨_, rfl⟩
              have HS0 : Sd wr [b3_6] CL wr.drew := ⟨(Chg.refl wr _).drew, by rw [hCL]; simp only [List.forall_mem_cons]; exact ⟨yr0, yr5, yr6, yr7, yr8, by simp⟩⟩
              have hU0 : ∀ p ∈ CL, p.1.block ∈ ([b4_6, w.heap.size] : List Nat) := by rw [hCL]; simp only [List.forall_mem_cons]; exact ⟨by simp, by simp, by simp, by simp, by simp, by simp⟩
              have hlt0 : ∀ u ∈ ([b4_6, w.heap.size] : List Nat), u < wr.heap.size := by simp only [List.forall_mem_cons]; exact ⟨World.block_lt_of_cell? _ _ yr5, World.block_lt_of_cell? _ _ yr0, by simp⟩
              refine Reg.wp_region (Reg.of 14 _ _ [.int .i64 1, .agg #[.iface 74 (.pointer (some ⟨b, 0, none⟩))], .int .i64 1, .pointer (some ⟨b3_6, 1, none⟩), .int .i32 (P1).v, .agg #[.iface 74 (.pointer (some ⟨b, 0, none⟩))], .int .i64 1, .pointer (some ⟨b4_6, 1, none⟩), .int .i32 (N1).v, .int .i32 (sensedM v0 v1 v2).v, .int .i32 (andW (N1) (sensedM v0 v1 v2)).v, .int .i32 (addsW (P1) (andW (N1) (sensedM v0 v1 v2))).v, .pointer (some ⟨b3_6, 1, none⟩), undef] [fun _ => undef, fun _ => undef, fun _ => undef, fun _ => undef, fun _ => undef, fun _ => undef, fun _ => undef, fun _ => undef, fun _ => undef, fun _ => undef, fun _ => undef, fun _ => undef, fun _ => undef, fun _ => undef] [.val, .val, .val, .val, .val, .val, .val, .val, .val, .val, .val, .val, .val, .put 14 [.int .i32 (addsW P0 (andW N0 (sensedM v0 v1 v2))).v, .int .i32 (addsW (P1) (andW (N1) (sensedM v0 v1 v2))).v, .int .i32 (P2).v, .int .i32 (P3).v]] [(27, [.int .i32 (addsW P0 (andW N0 (sensedM v0 v1 v2))).v, .int .i32 (P1).v, .int .i32 (P2).v, .int .i32 (P3).v])] [b3_6] [] (fun _ => Sd wr [b3_6] CL) (Fd wr [b3_6] [b4_6, w.heap.size])) (Reg.good_of _ 110 (by kernel_rfl) (by kernel_rfl)) (stands_d _ wr [b3_6] [b4_6, w.heap.size] CL rfl rfl rfl hU0 hlt0) (by kernel_rfl) HS0 (hold_of (by kernel_rfl) ?holdwz5201) (ne_of (by kernel_rfl) ?hnewz5201) (Reg.steps_of _ rfl ⟨?_, ?_, ?_, ?_, ?_, ?_, ?_, ?_, ?_, ?_, ?_, ?_, ?_, ?_, trivial⟩) ?hendwz5201
              case holdwz5201 =>
                intro k T c hk
                cases k with
                | zero => simp only [List.getElem?_cons_zero, Option.some.injEq, Prod.mk.injEq] at hk; obtain ⟨rfl, rfl⟩ := hk; exact ⟨mo, ⟨by simp; try omega, .inl (by simp)⟩⟩
                | succ k =>
                  simp at hk
              case hnewz5201 => intro i j hi hj hne; simp at hi hj; omega
              case hendwz5201 =>
                intro wz5201 γ hSz hBz hnez hOz
                replace hSz : Sd wr [b3_6] CL wz5201 := hSz
                have ob0 : Blk wz5201 (b3_6) 27 [.int .i32 (addsW P0 (andW N0 (sensedM v0 v1 v2))).v, .int .i32 (addsW (P1) (andW (N1) (sensedM v0 v1 v2))).v, .int .i32 (P2).v, .int .i32 (P3).v] := by have h := (hBz 14 27 [.int .i32 (addsW P0 (andW N0 (sensedM v0 v1 v2))).v, .int .i32 (P1).v, .int .i32 (P2).v, .int .i32 (P3).v] (by kernel_rfl) [.int .i32 (addsW P0 (andW N0 (sensedM v0 v1 v2))).v, .int .i32 (addsW (P1) (andW (N1) (sensedM v0 v1 v2))).v, .int .i32 (P2).v, .int .i32 (P3).v] (by kernel_rfl)).1; rw [hOz 14 (Nat.le_trans (Nat.le_of_eq (by kernel_rfl : _ = 14)) (by decide : 14 ≤ 14))] at h; exact h
                refine end_of [(47, .int .i64 1), (48, .agg #[.iface 74 (.pointer (some ⟨b, 0, none⟩))]), (49, .int .i64 1), (50, .pointer (some ⟨b3_6, 1, none⟩)), (51, .int .i32 (P1).v), (52, .agg #[.iface 74 (.pointer (some ⟨b, 0, none⟩))]), (53, .int .i64 1), (54, .pointer (some ⟨b4_6, 1, none⟩)), (55, .int .i32 (N1).v), (56, .int .i32 (sensedM v0 v1 v2).v), (57, .int .i32 (andW (N1) (sensedM v0 v1 v2)).v), (58, .int .i32 (addsW (P1) (andW (N1) (sensedM v0 v1 v2))).v), (59, .pointer (some ⟨b3_6, 1, none⟩))] (by kernel_rfl) ?_
                clear hBz hnez hOz HS0 hU0
                simp only [Reg.of, List.foldl_cons, List.foldl_nil, List.setIfInBounds_toArray, List.set_cons_zero, List.set_cons_succ]
                have HC5201 := hide (HQ.out.trans hSz.chg (D := [b3_6]) (by simp))
                have y5201_0 : wz5201.cell? ⟨w.heap.size, 0, none⟩ = some (.iface 74 (.pointer (some ⟨b, 0, none⟩))) := hSz.at_ 0 _ _ (by rw [hCL]; rfl)
                have y5201_1 : wz5201.cell? ⟨b4_6, 0, none⟩ = some (.int .i32 (N0).v) := hSz.at_ 1 _ _ (by rw [hCL]; rfl)
                have y5201_2 : wz5201.cell? ⟨b4_6, 1, none⟩ = some (.int .i32 (N1).v) := hSz.at_ 2 _ _ (by rw [hCL]; rfl)
                have y5201_3 : wz5201.cell? ⟨b4_6, 2, none⟩ = some (.int .i32 (N2).v) := hSz.at_ 3 _ _ (by rw [hCL]; rfl)
                have y5201_4 : wz5201.cell? ⟨b4_6, 3, none⟩ = some (.int .i32 (N3).v) := hSz.at_ 4 _ _ (by rw [hCL]; rfl)
                clear hSz hCL hlt0 CL yr0 yr5 yr6 yr7 yr8 HQ mo
                have mo5201_0 := ob0
                clear ob0
                go_wp2
                go_roundw
                case rel => exact ⟨2, by omega, by go_num, HC5201, hide (by rw [HLN5.out, HLO5.out]; exact mo5201_0)⟩
                case measure => simp [intOf]
              · intro a wu γ nph K hp hK
                obtain ⟨e17a, e17b⟩ := hp.old_ 17 (.int .i64 1)
                have hk := hK.pure (.int .i64 1) hp.S
                clear hp hK
                go_simp
                exact hk
              · intro a wu γ nph K hp hK
                obtain ⟨e5a, e5b⟩ := hp.old_ 5 (.pointer (some ⟨w.heap.size, 0, none⟩))
                have hS : Sd wr [b3_6] CL wu := hp.S
                have c0 := hS.at_ 0 ⟨w.heap.size, 0, none⟩ (.iface 74 (.pointer (some ⟨b, 0, none⟩))) (by rw [hCL]; rfl)
                have hk := hK.pure (.agg #[.iface 74 (.pointer (some ⟨b, 0, none⟩))]) hp.S
                clear hp hK hS
                go_simp
                exact hk
              · intro a wu γ nph K hp hK
                obtain ⟨e17a, e17b⟩ := hp.old_ 17 (.int .i64 1)
                have hk := hK.pure (.int .i64 1) hp.S
                clear hp hK
                go_simp
                exact hk
              · intro a wu γ nph K hp hK
                obtain ⟨e15a, e15b⟩ := hp.old_ 15 (.pointer (some ⟨b3_6, 0, none⟩))
                obtain ⟨e49a, e49b⟩ := hp.dep_ 49 2 (.int .i64 1)
                have hk := hK.pure (.pointer (some ⟨b3_6, 1, none⟩)) hp.S
                clear hp hK
                go_simp
                exact hk
              · intro a wu γ nph K hp hK
                obtain ⟨e50a, e50b⟩ := hp.dep_ 50 3 (.pointer (some ⟨b3_6, 1, none⟩))
                have hbo0_1 := (hp.blk_ 14 (T := 27) (c := [.int .i32 (addsW P0 (andW N0 (sensedM v0 v1 v2))).v, .int .i32 (P1).v, .int .i32 (P2).v, .int .i32 (P3).v])).1
                rw [hp.old 14 (Nat.le_trans (Nat.le_of_eq (by kernel_rfl : _ = 14)) (by decide : 14 ≤ 14))] at hbo0_1
                have co0_1 : wu.cell? ⟨b3_6, 1, none⟩ = some (.int .i32 (P1).v) := hbo0_1.cell' (i := 1) rfl
                have hk := hK.pure (.int .i32 (P1).v) hp.S
                clear hp hK
                go_simp
                exact hk
              · intro a wu γ nph K hp hK
                obtain ⟨e5a, e5b⟩ := hp.old_ 5 (.pointer (some ⟨w.heap.size, 0, none⟩))
                have hS : Sd wr [b3_6] CL wu := hp.S
                have c0 := hS.at_ 0 ⟨w.heap.size, 0, none⟩ (.iface 74 (.pointer (some ⟨b, 0, none⟩))) (by rw [hCL]; rfl)
                have hk := hK.pure (.agg #[.iface 74 (.pointer (some ⟨b, 0, none⟩))]) hp.S
                clear hp hK hS
                go_simp
                exact hk
              · intro a wu γ nph K hp hK
                obtain ⟨e17a, e17b⟩ := hp.old_ 17 (.int .i64 1)
                have hk := hK.pure (.int .i64 1) hp.S
                clear hp hK
                go_simp
                exact hk
              · intro a wu γ nph K hp hK
                obtain ⟨e16a, e16b⟩ := hp.old_ 16 (.pointer (some ⟨b4_6, 0, none⟩))
                obtain ⟨e53a, e53b⟩ := hp.dep_ 53 6 (.int .i64 1)
                have hk := hK.pure (.pointer (some ⟨b4_6, 1, none⟩)) hp.S
                clear hp hK
                go_simp
                exact hk
              · intro a wu γ nph K hp hK
                obtain ⟨e54a, e54b⟩ := hp.dep_ 54 7 (.pointer (some ⟨b4_6, 1, none⟩))
                have hS : Sd wr [b3_6] CL wu := hp.S
                have c2 := hS.at_ 2 ⟨b4_6, 1, none⟩ (.int .i32 (N1).v) (by rw [hCL]; rfl)
                have hk := hK.pure (.int .i32 (N1).v) hp.S
                clear hp hK hS
                go_simp
                exact hk
              · intro a wu γ nph K hp hK
                obtain ⟨e14a, e14b⟩ := hp.old_ 14 (.int .i32 (sensedM v0 v1 v2).v)
                have hk := hK.pure (.int .i32 (sensedM v0 v1 v2).v) hp.S
                clear hp hK
                go_simp
                exact hk
              · intro a wu γ nph K hp hK
                obtain ⟨e52a, e52b⟩ := hp.dep_ 52 5 (.agg #[.iface 74 (.pointer (some ⟨b, 0, none⟩))])
                obtain ⟨e55a, e55b⟩ := hp.dep_ 55 8 (.int .i32 (N1).v)
                obtain ⟨e56a, e56b⟩ := hp.dep_ 56 9 (.int .i32 (sensedM v0 v1 v2).v)
                have hS : Sd wr [b3_6] CL wu := hp.S
                have hk := hK.call (.int .i32 (andW (N1) (sensedM v0 v1 v2)).v)
                clear hp hK
                go_simp
                refine (w_and _ _ _ _).mono ?_
                rintro e w7 ⟨rfl, hcX⟩
                exact hk _ (hS.call hcX) (Reg.keep_call _ rfl hcX)
              · intro a wu γ nph K hp hK
                obtain ⟨e48a, e48b⟩ := hp.dep_ 48 1 (.agg #[.iface 74 (.pointer (some ⟨b, 0, none⟩))])
                obtain ⟨e51a, e51b⟩ := hp.dep_ 51 4 (.int .i32 (P1).v)
                obtain ⟨e57a, e57b⟩ := hp.dep_ 57 10 (.int .i32 (andW (N1) (sensedM v0 v1 v2)).v)
                have hS : Sd wr [b3_6] CL wu := hp.S
                have hk := hK.call (.int .i32 (addsW (P1) (andW (N1) (sensedM v0 v1 v2))).v)
                clear hp hK
                go_simp
                refine (w_adds _ _ _ _).mono ?_
                rintro e w7 ⟨rfl, hcX⟩
                exact hk _ (hS.call hcX) (Reg.keep_call _ rfl hcX)
              · intro a wu γ nph K hp hK
                obtain ⟨e15a, e15b⟩ := hp.old_ 15 (.pointer (some ⟨b3_6, 0, none⟩))
                obtain ⟨e47a, e47b⟩ := hp.dep_ 47 0 (.int .i64 1)
                have hk := hK.pure (.pointer (some ⟨b3_6, 1, none⟩)) hp.S
                clear hp hK
                go_simp
                exact hk
              · intro a wu γ nph K hp hK
                obtain ⟨e59a, e59b⟩ := hp.dep_ 59 12 (.pointer (some ⟨b3_6, 1, none⟩))
                obtain ⟨e58a, e58b⟩ := hp.dep_ 58 11 (.int .i32 (addsW (P1) (andW (N1) (sensedM v0 v1 v2))).v)
                have hb := (hp.blk_ 14 (T := 27) (c := [.int .i32 (addsW P0 (andW N0 (sensedM v0 v1 v2))).v, .int .i32 (P1).v, .int .i32 (P2).v, .int .i32 (P3).v])).1
                have hk := hK.put 14 27 [.int .i32 (addsW P0 (andW N0 (sensedM v0 v1 v2))).v, .int .i32 (P1).v, .int .i32 (P2).v, .int .i32 (P3).v] [.int .i32 (addsW P0 (andW N0 (sensedM v0 v1 v2))).v, .int .i32 (addsW (P1) (andW (N1) (sensedM v0 v1 v2))).v, .int .i32 (P2).v, .int .i32 (P3).v]
                have hO : γ 14 = b3_6 := hp.old 14 (Nat.le_trans (Nat.le_of_eq (by kernel_rfl : _ = 14)) (by decide : 14 ≤ 14))
                rw [hO] at hb hk
                have z1 := hb.cell' (i := 1) rfl
                have f1 := hb.frozen 1
                clear hp hK
                clear hO
                go_simp
                exact hk _ (hb.set_ 1 _) ((Chg.refl wu _).setCell _ _ (.inl (by simp))) (by simp)
            · have mo : Blk wr (b3_6) 27 [.int .i32 (addsW P0 (andW N0 (sensedM v0 v1 v2))).v, .int .i32 (addsW P1 (andW N1 (sensedM v0 v1 v2))).v, .int .i32 (P2).v, .int .i32 (P3).v] := by have h := HB.out; rw [HLN5.out, HLO5.out] at h; exact h
              clear HB HB5 HQ5 yr1 yr2 yr3 yr4 y4_0 y4_1 y4_2 y4_3 y4_4 y4_8 y4_9 y4_10 y4_11 yn4_6_0 yn4_6_1 yn4_6_2 yn4_6_3 fr4_0 fr4_1 fr4_3 fn4_6 frk4_1 frk4_2  pl4 HC4  m1 m2 m5 HPB
              go_wp2_with fail
              obtain ⟨CL, hCL⟩ : ∃ l : List (Addr × Value), l = [(⟨w.heap.size, 0, none⟩, .iface 74 (.pointer (some ⟨b, 0, none⟩))), (⟨b4_6, 0, none⟩, .int .i32 (N0).v), (⟨b4_6, 1, none⟩, .int .i32 (N1).v), (⟨b4_6, 2, none⟩, .int .i32 (N2).v), (⟨b4_6, 3, none⟩, .int .i32 (N3).v)] := ⟨_, rfl⟩
              have HS0 : Sd wr [b3_6] CL wr.drew := ⟨(Chg.refl wr _).drew, by rw [hCL]; simp only [List.forall_mem_cons]; exact ⟨yr0, yr5, yr6, yr7, yr8, by simp⟩⟩
              have hU0 : ∀ p ∈ CL, p.1.block ∈ ([b4_6, w.heap.size] : List Nat) := by rw [hCL]; simp only [List.forall_mem_cons]; exact ⟨by simp, by simp, by simp, by simp, by simp, by simp⟩
              have hlt0 : ∀ u ∈ ([b4_6, w.heap.size] : List Nat), u < wr.heap.size := by simp only [List.forall_mem_cons]; exact ⟨World.block_lt_of_cell? _ _ yr5, World.block_lt_of_cell? _ _ yr0, by simp⟩
              refine Reg.wp_region (Reg.of 14 _ _ [.int .i64 2, .agg #[.iface 74 (.pointer (some ⟨b, 0, none⟩))], .int .i64 2, .pointer (some ⟨b3_6, 2, none⟩), .int .i32 (P2).v, .agg #[.iface 74 (.pointer (some ⟨b, 0, none⟩))], .int .i64 2, .pointer (some ⟨b4_6, 2, none⟩), .int .i32 (N2).v, .int .i32 (sensedM v0 v1 v2).v, .int .i32 (andW (N2) (sensedM v0 v1 v2)).v, .int .i32 (addsW (P2) (andW (N2) (sensedM v0 v1 v2))).v, .pointer (some ⟨b3_6, 2, none⟩), undef] [fun _ => undef, fun _ => undef, fun _ => undef, fun _ => undef, fun _ => undef, fun _ => undef, fun _ => undef, fun _ => undef, fun _ => undef, fun _ => undef, fun _ => undef, fun _ => undef, fun _ => undef, fun _ => undef] [.val, .val, .val, .val, .val, .val, .val, .val, .val, .val, .val, .val, .val, .put 14 [.int .i32 (addsW P0 (andW N0 (sensedM v0 v1 v2))).v, .int .i32 (addsW P1 (andW N1 (sensedM v0 v1 v2))).v, .int .i32 (addsW (P2) (andW (N2) (sensedM v0 v1 v2))).v, .int .i32 (P3).v]] [(27, [.int .i32 (addsW P0 (andW N0 (sensedM v0 v1 v2))).v, .int .i32 (addsW P1 (andW N1 (sensedM v0 v1 v2))).v, .int .i32 (P2).v, .int .i32 (P3).v])] [b3_6] [] (fun _ => Sd wr [b3_6] CL) (Fd wr [b3_6] [b4_6, w.heap.size])) (Reg.good_of _ 110 (by kernel_rfl) (by kernel_rfl)) (stands_d _ wr [b3_6] [b4_6, w.heap.size] CL rfl rfl rfl hU0 hlt0) (by kernel_rfl) HS0 (hold_of (by kernel_rfl) ?holdwz5301) (ne_of (by kernel_rfl) ?hnewz5301) (Reg.steps_of _ rfl ⟨?_, ?_, ?_, ?_, ?_, ?_, ?_, ?_, ?_, ?_, ?_, ?_, ?_, ?_, trivial⟩) ?hendwz5301
              case holdwz5301 =>
                intro k T c hk
                cases k with
                | zero => simp only [List.getElem?_cons_zero, Option.some.injEq, Prod.mk.injEq] at hk; obtain ⟨rfl, rfl⟩ := hk; exact ⟨mo, ⟨by simp; try omega, .inl (by simp)⟩⟩
                | succ k =>
                  simp at hk
              case hnewz5301 => intro i j hi hj hne; simp at hi hj; omega
              case hendwz5301 =>
                intro wz5301 γ hSz hBz hnez hOz
                replace hSz : Sd wr [b3_6] CL wz5301 := hSz
                have ob0 : Blk wz5301 (b3_6) 27 [.int .i32 (addsW P0 (andW N0 (sensedM v0 v1 v2))).v, .int .i32 (addsW P1 (andW N1 (sensedM v0 v1 v2))).v, .int .i32 (addsW (P2) (andW (N2) (sensedM v0 v1 v2))).v, .int .i32 (P3).v] := by have h := (hBz 14 27 [.int .i32 (addsW P0 (andW N0 (sensedM v0 v1 v2))).v, .int .i32 (addsW P1 (andW N1 (sensedM v0 v1 v2))).v, .int .i32 (P2).v, .int .i32 (P3).v] (by kernel_rfl) [.int .i32 (addsW P0 (andW N0 (sensedM v0 v1 v2))).v, .int .i32 (addsW P1 (andW N1 (sensedM v0 v1 v2))).v, .int .i32 (addsW (P2) (andW (N2) (sensedM v0 v1 v2))).v, .int .i32 (P3).v] (by kernel_rfl)).1; rw [hOz 14 (Nat.le_trans (Nat.le_of_eq (by kernel_rfl : _ = 14)) (by decide : 14 ≤ 14))] at h; exact h
                refine end_of [(47, .int .i64 2), (48, .agg #[.iface 74 (.pointer (some ⟨b, 0, none⟩))]), (49, .int .i64 2), (50, .pointer (some ⟨b3_6, 2, none⟩)), (51, .int .i32 (P2).v), (52, .agg #[.iface 74 (.pointer (some ⟨b, 0, none⟩))]), (53, .int .i64 2), (54, .pointer (some ⟨b4_6, 2, none⟩)), (55, .int .i32 (N2).v), (56, .int .i32 (sensedM v0 v1 v2).v), (57, .int .i32 (andW (N2) (sensedM v0 v1 v2)).v), (58, .int .i32 (addsW (P2) (andW (N2) (sensedM v0 v1 v2))).v), (59, .pointer (some ⟨b3_6, 2, none⟩))] (by kernel_rfl) ?_
                clear hBz hnez hOz HS0 hU0
                simp only [Reg.of, List.foldl_cons, List.foldl_nil, List.setIfInBounds_toArray, List.set_cons_zero, List.set_cons_succ]
                have HC5301 := hide (HQ.out.trans hSz.chg (D := [b3_6]) (by simp))
                have y5301_0 : wz5301.cell? ⟨w.heap.size, 0, none⟩ = some (.iface 74 (.pointer (some ⟨b, 0, none⟩))) := hSz.at_ 0 _ _ (by rw [hCL]; rfl)
                have y5301_1 : wz5301.cell? ⟨b4_6, 0, none⟩ = some (.int .i32 (N0).v) := hSz.at_ 1 _ _ (by rw [hCL]; rfl)
                have y5301_2 : wz5301.cell? ⟨b4_6, 1, none⟩ = some (.int .i32 (N1).v) := hSz.at_ 2 _ _ (by rw [hCL]; rfl)
                have y5301_3 : wz5301.cell? ⟨b4_6, 2, none⟩ = some (.int .i32 (N2).v) := hSz.at_ 3 _ _ (by rw [hCL]; rfl)
                have y5301_4 : wz5301.cell? ⟨b4_6, 3, none⟩ = some (.int .i32 (N3).v) := hSz.at_ 4 _ _ (by rw [hCL]; rfl)
                clear hSz hCL hlt0 CL yr0 yr5 yr6 yr7 yr8 HQ mo
                have mo5301_0 := ob0
                clear ob0
                go_wp2
                go_roundw
                case rel => exact ⟨3, by omega, by go_num, HC5301, hide (by rw [HLN5.out, HLO5.out]; exact mo5301_0)⟩
                case measure => simp [intOf]
              · intro a wu γ nph K hp hK
                obtain ⟨e17a, e17b⟩ := hp.old_ 17 (.int .i64 2)
                have hk := hK.pure (.int .i64 2) hp.S
                clear hp hK
                go_simp
                exact hk
              · intro a wu γ nph K hp hK
                obtain ⟨e5a, e5b⟩ := hp.old_ 5 (.pointer (some ⟨w.heap.size, 0, none⟩))
                have hS : Sd wr [b3_6] CL wu := hp.S
                have c0 := hS.at_ 0 ⟨w.heap.size, 0, none⟩ (.iface 74 (.pointer (some ⟨b, 0, none⟩))) (by rw [hCL]; rfl)
                have hk := hK.pure (.agg #[.iface 74 (.pointer (some ⟨b, 0, none⟩))]) hp.S
                clear hp hK hS
                go_simp
                exact hk
              · intro a wu γ nph K hp hK
                obtain ⟨e17a, e17b⟩ := hp.old_ 17 (.int .i64 2)
                have hk := hK.pure (.int .i64 2) hp.S
                clear hp hK
                go_simp
                exact hk
              · intro a wu γ nph K hp hK
                obtain ⟨e15a, e15b⟩ := hp.old_ 15 (.pointer (some ⟨b3_6, 0, none⟩))
                obtain ⟨e49a, e49b⟩ := hp.dep_ 49 2 (.int .i64 2)
                have hk := hK.pure (.pointer (some ⟨b3_6, 2, none⟩)) hp.S
                clear hp hK
                go_simp
                exact hk
              · intro a wu γ nph K hp hK
                obtain ⟨e50a, e50b⟩ := hp.dep_ 50 3 (.pointer (some ⟨b3_6, 2, none⟩))
                have hbo0_2 := (hp.blk_ 14 (T := 27) (c := [.int .i32 (addsW P0 (andW N0 (sensedM v0 v1 v2))).v, .int .i32 (addsW P1 (andW N1 (sensedM v0 v1 v2))).v, .int .i32 (P2).v, .int .i32 (P3).v])).1
                rw [hp.old 14 (Nat.le_trans (Nat.le_of_eq (by kernel_rfl : _ = 14)) (by decide : 14 ≤ 14))] at hbo0_2
                have co0_2 : wu.cell? ⟨b3_6, 2, none⟩ = some (.int .i32 (P2).v) := hbo0_2.cell' (i := 2) rfl
                have hk := hK.pure (.int .i32 (P2).v) hp.S
                clear hp hK
                go_simp
                exact hk
              · intro a wu γ nph K hp hK
                obtain ⟨e5a, e5b⟩ := hp.old_ 5 (.pointer (some ⟨w.heap.size, 0, none⟩))
                have hS : Sd wr [b3_6] CL wu := hp.S
                have c0 := hS.at_ 0 ⟨w.heap.size, 0, none⟩ (.iface 74 (.pointer (some ⟨b, 0, none⟩))) (by rw [hCL]; rfl)
                have hk := hK.pure (.agg #[.iface 74 (.pointer (some ⟨b, 0, none⟩))]) hp.S
                clear hp hK hS
                go_simp
                exact hk
              · intro a wu γ nph K hp hK
                obtain ⟨e17a, e17b⟩ := hp.old_ 17 (.int .i64 2)
                have hk := hK.pure (.int .i64 2) hp.S
                clear hp hK
                go_simp
                exact hk
              · intro a wu γ nph K hp hK
                obtain ⟨e16a, e16b⟩ := hp.old_ 16 (.pointer (some ⟨b4_6, 0, none⟩))
                obtain ⟨e53a, e53b⟩ := hp.dep_ 53 6 (.int .i64 2)
                have hk := hK.pure (.pointer (some ⟨b4_6, 2, none⟩)) hp.S
                clear hp hK
                go_simp
                exact hk
              · intro a wu γ nph K hp hK
                obtain ⟨e54a, e54b⟩ := hp.dep_ 54 7 (.pointer (some ⟨b4_6, 2, none⟩))
                have hS : Sd wr [b3_6] CL wu := hp.S
                have c3 := hS.at_ 3 ⟨b4_6, 2, none⟩ (.int .i32 (N2).v) (by rw [hCL]; rfl)
                have hk := hK.pure (.int .i32 (N2).v) hp.S
                clear hp hK hS
                go_simp
                exact hk
              · intro a wu γ nph K hp hK
                obtain ⟨e14a, e14b⟩ := hp.old_ 14 (.int .i32 (sensedM v0 v1 v2).v)
                have hk := hK.pure (.int .i32 (sensedM v0 v1 v2).v) hp.S
                clear hp hK
                go_simp
                exact hk
              · intro a wu γ nph K hp hK
                obtain ⟨e52a, e52b⟩ := hp.dep_ 52 5 (.agg #[.iface 74 (.pointer (some ⟨b, 0, none⟩))])
                obtain ⟨e55a, e55b⟩ := hp.dep_ 55 8 (.int .i32 (N2).v)
                obtain ⟨e56a, e56b⟩ := hp.dep_ 56 9 (.int .i32 (sensedM v0 v1 v2).v)
                have hS : Sd wr [b3_6] CL wu := hp.S
                have hk := hK.call (.int .i32 (andW (N2) (sensedM v0 v1 v2)).v)
                clear hp hK
                go_simp
                refine (w_and _ _ _ _).mono ?_
                rintro e w7 ⟨rfl, hcX⟩
                exact hk _ (hS.call hcX) (Reg.keep_call _ rfl hcX)
              · intro a wu γ nph K hp hK
                obtain ⟨e48a, e48b⟩ := hp.dep_ 48 1 (.agg #[.iface 74 (.pointer (some ⟨b, 0, none⟩))])
                obtain ⟨e51a, e51b⟩ := hp.dep_ 51 4 (.int .i32 (P2).v)
                obtain ⟨e57a, e57b⟩ := hp.dep_ 57 10 (.int .i32 (andW (N2) (sensedM v0 v1 v2)).v)
                have hS : Sd wr [b3_6] CL wu := hp.S
                have hk := hK.call (.int .i32 (addsW (P2) (andW (N2) (sensedM v0 v1 v2))).v)
                clear hp hK
                go_simp
                refine (w_adds _ _ _ _).mono ?_
                rintro e w7 ⟨rfl, hcX⟩
                exact hk _ (hS.call hcX) (Reg.keep_call _ rfl hcX)
              · intro a wu γ nph K hp hK
                obtain ⟨e15a, e15b⟩ := hp.old_ 15 (.pointer (some ⟨b3_6, 0, none⟩))
                obtain ⟨e47a, e47b⟩ := hp.dep_ 47 0 (.int .i64 2)
                have hk := hK.pure (.pointer (some ⟨b3_6, 2, none⟩)) hp.S
                clear hp hK
                go_simp
                exact hk
              · intro a wu γ nph K hp hK
                obtain ⟨e59a, e59b⟩ := hp.dep_ 59 12 (.pointer (some ⟨b3_6, 2, none⟩))
                obtain ⟨e58a, e58b⟩ := hp.dep_ 58 11 (.int .i32 (addsW (P2) (andW (N2) (sensedM v0 v1 v2))).v)
                have hb := (hp.blk_ 14 (T := 27) (c := [.int .i32 (addsW P0 (andW N0 (sensedM v0 v1 v2))).v, .int .i32 (addsW P1 (andW N1 (sensedM v0 v1 v2))).v, .int .i32 (P2).v, .int .i32 (P3).v])).1
                have hk := hK.put 14 27 [.int .i32 (addsW P0 (andW N0 (sensedM v0 v1 v2))).v, .int .i32 (addsW P1 (andW N1 (sensedM v0 v1 v2))).v, .int .i32 (P2).v, .int .i32 (P3).v] [.int .i32 (addsW P0 (andW N0 (sensedM v0 v1 v2))).v, .int .i32 (addsW P1 (andW N1 (sensedM v0 v1 v2))).v, .int .i32 (addsW (P2) (andW (N2) (sensedM v0 v1 v2))).v, .int .i32 (P3).v]
                have hO : γ 14 = b3_6 := hp.old 14 (Nat.le_trans (Nat.le_of_eq (by kernel_rfl : _ = 14)) (by decide : 14 ≤ 14))
                rw [hO] at hb hk
                have z2 := hb.cell' (i := 2) rfl
                have f2 := hb.frozen 2
                clear hp hK
                clear hO
                go_simp
                exact hk _ (hb.set_ 2 _) ((Chg.refl wu _).setCell _ _ (.inl (by simp))) (by simp)
            · have mo : Blk wr (b3_6) 27 [.int .i32 (addsW P0 (andW N0 (sensedM v0 v1 v2))).v, .int .i32 (addsW P1 (andW N1 (sensedM v0 v1 v2))).v, .int .i32 (addsW P2 (andW N2 (sensedM v0 v1 v2))).v, .int .i32 (P3).v] := by have h := HB.out; rw [HLN5.out, HLO5.out] at h; exact h
              clear HB HB5 HQ5 yr1 yr2 yr3 yr4 y4_0 y4_1 y4_2 y4_3 y4_4 y4_8 y4_9 y4_10 y4_11 yn4_6_0 yn4_6_1 yn4_6_2 yn4_6_3 fr4_0 fr4_1 fr4_3 fn4_6 frk4_1 frk4_2  pl4 HC4  m1 m2 m5 HPB
              go_wp2_with fail
              obtain ⟨CL, hCL⟩ : ∃ l : List (Addr × Value), l = [(⟨w.heap.size, 0, none⟩, .iface 74 (.pointer (some ⟨b, 0, none⟩))), (⟨b4_6, 0, none⟩, .int .i32 (N0).v), (⟨b4_6, 1, none⟩, .int .i32 (N1).v), (⟨b4_6, 2, none⟩, .int .i32 (N2).v), (⟨b4_6, 3, none⟩, .int .i32 (N3).v)] := ⟨_, rfl⟩
              have HS0 : Sd wr [b3_6] CL wr.drew := ⟨(Chg.refl wr _).drew, by rw [hCL]; simp only [List.forall_mem_cons]; exact ⟨yr0, yr5, yr6, yr7, yr8, by simp⟩⟩
              have hU0 : ∀ p ∈ CL, p.1.block ∈ ([b4_6, w.heap.size] : List Nat) := by rw [hCL]; simp only [List.forall_mem_cons]; exact ⟨by simp, by simp, by simp, by simp, by simp, by simp⟩
              have hlt0 : ∀ u ∈ ([b4_6, w.heap.size] : List Nat), u < wr.heap.size := by simp only [List.forall_mem_cons]; exact ⟨World.block_lt_of_cell? _ _ yr5, World.block_lt_of_cell? _ _ yr0, by simp⟩
              refine Reg.wp_region (Reg.of 14 _ _ [.int .i64 3, .agg #[.iface 74 (.pointer (some ⟨b, 0, none⟩))], .int .i64 3, .pointer (some ⟨b3_6, 3, none⟩), .int .i32 (P3).v, .agg #[.iface 74 (.pointer (some ⟨b, 0, none⟩))], .int .i64 3, .pointer (some ⟨b4_6, 3, none⟩), .int .i32 (N3).v, .int .i32 (sensedM v0 v1 v2).v, .int .i32 (andW (N3) (sensedM v0 v1 v2)).v, .int .i32 (addsW (P3) (andW (N3) (sensedM v0 v1 v2))).v, .pointer (some ⟨b3_6, 3, none⟩), undef] [fun _ => undef, fun _ => undef, fun _ => undef, fun _ => undef, fun _ => undef, fun _ => undef, fun _ => undef, fun _ => undef, fun _ => undef, fun _ => undef, fun _ => undef, fun _ => undef, fun _ => undef, fun _ => undef] [.val, .val, .val, .val, .val, .val, .val, .val, .val, .val, .val, .val, .val, .put 14 [.int .i32 (addsW P0 (andW N0 (sensedM v0 v1 v2))).v, .int .i32 (addsW P1 (andW N1 (sensedM v0 v1 v2))).v, .int .i32 (addsW P2 (andW N2 (sensedM v0 v1 v2))).v, .int .i32 (addsW (P3) (andW (N3) (sensedM v0 v1 v2))).v]] [(27, [.int .i32 (addsW P0 (andW N0 (sensedM v0 v1 v2))).v, .int .i32 (addsW P1 (andW N1 (sensedM v0 v1 v2))).v, .int .i32 (addsW P2 (andW N2 (sensedM v0 v1 v2))).v, .int .i32 (P3).v])] [b3_6] [] (fun _ => Sd wr [b3_6] CL) (Fd wr [b3_6] [b4_6, w.heap.size])) (Reg.good_of _ 110 (by kernel_rfl) (by kernel_rfl)) (stands_d _ wr [b3_6] [b4_6, w.heap.size] CL rfl rfl rfl hU0 hlt0) (by kernel_rfl) HS0 (hold_of (by kernel_rfl) ?holdwz5401) (ne_of (by kernel_rfl) ?hnewz5401) (Reg.steps_of _ rfl ⟨?_, ?_, ?_, ?_, ?_, ?_, ?_, ?_, ?_, ?_, ?_, ?_, ?_, ?_, trivial⟩) ?hendwz5401
              case holdwz5401 =>
                intro k T c hk
                cases k with
                | zero => simp only [List.getElem?_cons_zero, Option.some.injEq, Prod.mk.injEq] at hk; obtain ⟨rfl, rfl⟩ := hk; exact ⟨mo, ⟨by simp; try omega, .inl (by simp)⟩⟩
                | succ k =>
                  simp at hk
              case hnewz5401 => intro i j hi hj hne; simp at hi hj; omega
              case hendwz5401 =>
                intro wz5401 γ hSz hBz hnez hOz
                replace hSz : Sd wr [b3_6] CL wz5401 := hSz
                have ob0 : Blk wz5401 (b3_6) 27 [.int .i32 (addsW P0 (andW N0 (sensedM v0 v1 v2))).v, .int .i32 (addsW P1 (andW N1 (sensedM v0 v1 v2))).v, .int .i32 (addsW P2 (andW N2 (sensedM v0 v1 v2))).v, .int .i32 (addsW (P3) (andW (N3) (sensedM v0 v1 v2))).v] := by have h := (hBz 14 27 [.int .i32 (addsW P0 (andW N0 (sensedM v0 v1 v2))).v, .int .i32 (addsW P1 (andW N1 (sensedM v0 v1 v2))).v, .int .i32 (addsW P2 (andW N2 (sensedM v0 v1 v2))).v, .int .i32 (P3).v] (by kernel_rfl) [.int .i32 (addsW P0 (andW N0 (sensedM v0 v1 v2))).v, .int .i32 (addsW P1 (andW N1 (sensedM v0 v1 v2))).v, .int .i32 (addsW P2 (andW N2 (sensedM v0 v1 v2))).v, .int .i32 (addsW (P3) (andW (N3) (sensedM v0 v1 v2))).v] (by kernel_rfl)).1; rw [hOz 14 (Nat.le_trans (Nat.le_of_eq (by kernel_rfl : _ = 14)) (by decide : 14 ≤ 14))] at h; exact h
                refine end_of [(47, .int .i64 3), (48, .agg #[.iface 74 (.pointer (some ⟨b, 0, none⟩))]), (49, .int .i64 3), (50, .pointer (some ⟨b3_6, 3, none⟩)), (51, .int .i32 (P3).v), (52, .agg #[.iface 74 (.pointer (some ⟨b, 0, none⟩))]), (53, .int .i64 3), (54, .pointer (some ⟨b4_6, 3, none⟩)), (55, .int .i32 (N3).v), (56, .int .i32 (sensedM v0 v1 v2).v), (57, .int .i32 (andW (N3) (sensedM v0 v1 v2)).v), (58, .int .i32 (addsW (P3) (andW (N3) (sensedM v0 v1 v2))).v), (59, .pointer (some ⟨b3_6, 3, none⟩))] (by kernel_rfl) ?_
                clear hBz hnez hOz HS0 hU0
                simp only [Reg.of, List.foldl_cons, List.foldl_nil, List.setIfInBounds_toArray, List.set_cons_zero, List.set_cons_succ]
                have HC5401 := hide (HQ.out.trans hSz.chg (D := [b3_6]) (by simp))
                have y5401_0 : wz5401.cell? ⟨w.heap.size, 0, none⟩ = some (.iface 74 (.pointer (some ⟨b, 0, none⟩))) := hSz.at_ 0 _ _ (by rw [hCL]; rfl)
                have y5401_1 : wz5401.cell? ⟨b4_6, 0, none⟩ = some (.int .i32 (N0).v) := hSz.at_ 1 _ _ (by rw [hCL]; rfl)
                have y5401_2 : wz5401.cell? ⟨b4_6, 1, none⟩ = some (.int .i32 (N1).v) := hSz.at_ 2 _ _ (by rw [hCL]; rfl)
                have y5401_3 : wz5401.cell? ⟨b4_6, 2, none⟩ = some (.int .i32 (N2).v) := hSz.at_ 3 _ _ (by rw [hCL]; rfl)
                have y5401_4 : wz5401.cell? ⟨b4_6, 3, none⟩ = some (.int .i32 (N3).v) := hSz.at_ 4 _ _ (by rw [hCL]; rfl)
                clear hSz hCL hlt0 CL yr0 yr5 yr6 yr7 yr8 HQ mo
                have mo5401_0 := ob0
                clear ob0
                go_wp2
                go_roundw
                case rel => exact ⟨4, by omega, by go_num, HC5401, hide (by rw [HLN5.out, HLO5.out]; exact mo5401_0)⟩
                case measure => simp [intOf]
              · intro a wu γ nph K hp hK
                obtain ⟨e17a, e17b⟩ := hp.old_ 17 (.int .i64 3)
                have hk := hK.pure (.int .i64 3) hp.S
                clear hp hK
                go_simp
                exact hk
              · intro a wu γ nph K hp hK
                obtain ⟨e5a, e5b⟩ := hp.old_ 5 (.pointer (some ⟨w.heap.size, 0, none⟩))
                have hS : Sd wr [b3_6] CL wu := hp.S
                have c0 := hS.at_ 0 ⟨w.heap.size, 0, none⟩ (.iface 74 (.pointer (some ⟨b, 0, none⟩))) (by rw [hCL]; rfl)
                have hk := hK.pure (.agg #[.iface 74 (.pointer (some ⟨b, 0, none⟩))]) hp.S
                clear hp hK hS
                go_simp
                exact hk
              · intro a wu γ nph K hp hK
                obtain ⟨e17a, e17b⟩ := hp.old_ 17 (.int .i64 3)
                have hk := hK.pure (.int .i64 3) hp.S
                clear hp hK
                go_simp
                exact hk
              · intro a wu γ nph K hp hK
                obtain ⟨e15a, e15b⟩ := hp.old_ 15 (.pointer (some ⟨b3_6, 0, none⟩))
                obtain ⟨e49a, e49b⟩ := hp.dep_ 49 2 (.int .i64 3)
                have hk := hK.pure (.pointer (some ⟨b3_6, 3, none⟩)) hp.S
                clear hp hK
                go_simp
                exact hk
              · intro a wu γ nph K hp hK
                obtain ⟨e50a, e50b⟩ := hp.dep_ 50 3 (.pointer (some ⟨b3_6, 3, none⟩))
                have hbo0_3 := (hp.blk_ 14 (T := 27) (c := [.int .i32 (addsW P0 (andW N0 (sensedM v0 v1 v2))).v, .int .i32 (addsW P1 (andW N1 (sensedM v0 v1 v2))).v, .int .i32 (addsW P2 (andW N2 (sensedM v0 v1 v2))).v, .int .i32 (P3).v])).1
                rw [hp.old 14 (Nat.le_trans (Nat.le_of_eq (by kernel_rfl : _ = 14)) (by decide : 14 ≤ 14))] at hbo0_3
                have co0_3 : wu.cell? ⟨b3_6, 3, none⟩ = some (.int .i32 (P3).v) := hbo0_3.cell' (i := 3) rfl
                have hk := hK.pure (.int .i32 (P3).v) hp.S
                clear hp hK
                go_simp
                exact hk
              · intro a wu γ nph K hp hK
                obtain ⟨e5a, e5b⟩ := hp.old_ 5 (.pointer (some ⟨w.heap.size, 0, none⟩))
                have hS : Sd wr [b3_6] CL wu := hp.S
                have c0 := hS.at_ 0 ⟨w.heap.size, 0, none⟩ (.iface 74 (.pointer (some ⟨b, 0, none⟩))) (by rw [hCL]; rfl)
                have hk := hK.pure (.agg #[.iface 74 (.pointer (some ⟨b, 0, none⟩))]) hp.S
                clear hp hK hS
                go_simp
                exact hk
              · intro a wu γ nph K hp hK
                obtain ⟨e17a, e17b⟩ := hp.old_ 17 (.int .i64 3)
                have hk := hK.pure (.int .i64 3) hp.S
                clear hp hK
                go_simp
                exact hk
              · intro a wu γ nph K hp hK
                obtain ⟨e16a, e16b⟩ := hp.old_ 16 (.pointer (some ⟨b4_6, 0, none⟩))
                obtain ⟨e53a, e53b⟩ := hp.dep_ 53 6 (.int .i64 3)
                have hk := hK.pure (.pointer (some ⟨b4_6, 3, none⟩)) hp.S
                clear hp hK
                go_simp
                exact hk
              · intro a wu γ nph K hp hK
                obtain ⟨e54a, e54b⟩ := hp.dep_ 54 7 (.pointer (some ⟨b4_6, 3, none⟩))
                have hS : Sd wr [b3_6] CL wu := hp.S
                have c4 := hS.at_ 4 ⟨b4_6, 3, none⟩ (.int .i32 (N3).v) (by rw [hCL]; rfl)
                have hk := hK.pure (.int .i32 (N3).v) hp.S
                clear hp hK hS
                go_simp
                exact hk
              · intro a wu γ nph K hp hK
                obtain ⟨e14a, e14b⟩ := hp.old_ 14 (.int .i32 (sensedM v0 v1 v2).v)
                have hk := hK.pure (.int .i32 (sensedM v0 v1 v2).v) hp.S
                clear hp hK
                go_simp
                exact hk
              · intro a wu γ nph K hp hK
                obtain ⟨e52a, e52b⟩ := hp.dep_ 52 5 (.agg #[.iface 74 (.pointer (some ⟨b, 0, none⟩))])
                obtain ⟨e55a, e55b⟩ := hp.dep_ 55 8 (.int .i32 (N3).v)
                obtain ⟨e56a, e56b⟩ := hp.dep_ 56 9 (.int .i32 (sensedM v0 v1 v2).v)
                have hS : Sd wr [b3_6] CL wu := hp.S
                have hk := hK.call (.int .i32 (andW (N3) (sensedM v0 v1 v2)).v)
                clear hp hK
                go_simp
                refine (w_and _ _ _ _).mono ?_
                rintro e w7 ⟨rfl, hcX⟩
                exact hk _ (hS.call hcX) (Reg.keep_call _ rfl hcX)
              · intro a wu γ nph K hp hK
                obtain ⟨e48a, e48b⟩ := hp.dep_ 48 1 (.agg #[.iface 74 (.pointer (some ⟨b, 0, none⟩))])
                obtain ⟨e51a, e51b⟩ := hp.dep_ 51 4 (.int .i32 (P3).v)
                obtain ⟨e57a, e57b⟩ := hp.dep_ 57 10 (.int .i32 (andW (N3) (sensedM v0 v1 v2)).v)
                have hS : Sd wr [b3_6] CL wu := hp.S
                have hk := hK.call (.int .i32 (addsW (P3) (andW (N3) (sensedM v0 v1 v2))).v)
                clear hp hK
                go_simp
                refine (w_adds _ _ _ _).mono ?_
                rintro e w7 ⟨rfl, hcX⟩
                exact hk _ (hS.call hcX) (Reg.keep_call _ rfl hcX)
              · intro a wu γ nph K hp hK
                obtain ⟨e15a, e15b⟩ := hp.old_ 15 (.pointer (some ⟨b3_6, 0, none⟩))
                obtain ⟨e47a, e47b⟩ := hp.dep_ 47 0 (.int .i64 3)
                have hk := hK.pure (.pointer (some ⟨b3_6, 3, none⟩)) hp.S
                clear hp hK
                go_simp
                exact hk
              · intro a wu γ nph K hp hK
                obtain ⟨e59a, e59b⟩ := hp.dep_ 59 12 (.pointer (some ⟨b3_6, 3, none⟩))
                obtain ⟨e58a, e58b⟩ := hp.dep_ 58 11 (.int .i32 (addsW (P3) (andW (N3) (sensedM v0 v1 v2))).v)
                have hb := (hp.blk_ 14 (T := 27) (c := [.int .i32 (addsW P0 (andW N0 (sensedM v0 v1 v2))).v, .int .i32 (addsW P1 (andW N1 (sensedM v0 v1 v2))).v, .int .i32 (addsW P2 (andW N2 (sensedM v0 v1 v2))).v, .int .i32 (P3).v])).1
                have hk := hK.put 14 27 [.int .i32 (addsW P0 (andW N0 (sensedM v0 v1 v2))).v, .int .i32 (addsW P1 (andW N1 (sensedM v0 v1 v2))).v, .int .i32 (addsW P2 (andW N2 (sensedM v0 v1 v2))).v, .int .i32 (P3).v] [.int .i32 (addsW P0 (andW N0 (sensedM v0 v1 v2))).v, .int .i32 (addsW P1 (andW N1 (sensedM v0 v1 v2))).v, .int .i32 (addsW P2 (andW N2 (sensedM v0 v1 v2))).v, .int .i32 (addsW (P3) (andW (N3) (sensedM v0 v1 v2))).v]
                have hO : γ 14 = b3_6 := hp.old 14 (Nat.le_trans (Nat.le_of_eq (by kernel_rfl : _ = 14)) (by decide : 14 ≤ 14))
                rw [hO] at hb hk
                have z3 := hb.cell' (i := 3) rfl
                have f3 := hb.frozen 3
                clear hp hK
                clear hO
                go_simp
                exact hk _ (hb.set_ 3 _) ((Chg.refl wu _).setCell _ _ (.inl (by simp))) (by simp)
            · have mo : Blk wr (b3_6) 27 [.int .i32 (addsW P0 (andW N0 (sensedM v0 v1 v2))).v, .int .i32 (addsW P1 (andW N1 (sensedM v0 v1 v2))).v, .int .i32 (addsW P2 (andW N2 (sensedM v0 v1 v2))).v, .int .i32 (addsW P3 (andW N3 (sensedM v0 v1 v2))).v] := by have h := HB.out; rw [HLN5.out, HLO5.out] at h; exact h
              have hq5 := HQ.out
              have hd5 := dof_chg pl4 hq5 (fun hm => by simp at hm; subst hm; exact fr4_3 pl4.mem)
              have pq5 := pl4.chg hq5 (fun j hj hm => by simp at hm; subst hm; exact fr4_3 hj)
              have fr5_0 := fr4_0
              rw [← hd5] at fr5_0
              have fr5_1 := fr4_1
              rw [← hd5] at fr5_1
              have fr5_2 := fr4_3
              rw [← hd5] at fr5_2
              have fr5_3 := fn4_6
              rw [← hd5] at fr5_3
              have fr5_4 := frk4_1
              rw [← hd5] at fr5_4
              have fr5_5 := frk4_2
              rw [← hd5] at fr5_5
              have HC5 := hide (HC4.out.put pl4 hq5 fr4_3 (by omega))
              replace m1 := m1.chg hq5 (by simp; try omega)
              replace m2 := m2.chg hq5 (by simp; try omega)
              replace m5 := m5.chg hq5 (by simp; try omega)
              have yq5_0 : wr.cell? ⟨b3_6, 0, none⟩ = some (.int .i32 (addsW P0 (andW N0 (sensedM v0 v1 v2))).v) := mo.cell' (i := 0) rfl
              have yq5_1 : wr.cell? ⟨b3_6, 1, none⟩ = some (.int .i32 (addsW P1 (andW N1 (sensedM v0 v1 v2))).v) := mo.cell' (i := 1) rfl
              have yq5_2 : wr.cell? ⟨b3_6, 2, none⟩ = some (.int .i32 (addsW P2 (andW N2 (sensedM v0 v1 v2))).v) := mo.cell' (i := 2) rfl
              have yq5_3 : wr.cell? ⟨b3_6, 3, none⟩ = some (.int .i32 (addsW P3 (andW N3 (sensedM v0 v1 v2))).v) := mo.cell' (i := 3) rfl
              clear y4_0 y4_1 y4_2 y4_3 y4_4 y4_8 y4_9 y4_10 y4_11 yn4_6_0 yn4_6_1 yn4_6_2 yn4_6_3 fr4_0 fr4_1 fr4_3 fn4_6 frk4_1 frk4_2 pl4 HC4 HPB hq5 hd5 HQ HB HB5 HQ5
              generalize hww5 : wr = wq5 at *
              clear hww5
              have mo5 := mo
              clear mo
              obtain ⟨D0, hD0⟩ : ∃ x, x = addsW P0 (andW N0 (sensedM v0 v1 v2)) := ⟨_, rfl⟩
              replace yq5_0 : wq5.cell? ⟨b3_6, 0, none⟩ = some (.int .i32 D0.v) := by rw [hD0]; exact yq5_0
              have HD0 := hide hD0
              clear hD0
              obtain ⟨D1, hD1⟩ : ∃ x, x = addsW P1 (andW N1 (sensedM v0 v1 v2)) := ⟨_, rfl⟩
              replace yq5_1 : wq5.cell? ⟨b3_6, 1, none⟩ = some (.int .i32 D1.v) := by rw [hD1]; exact yq5_1
              have HD1 := hide hD1
              clear hD1
              obtain ⟨D2, hD2⟩ : ∃ x, x = addsW P2 (andW N2 (sensedM v0 v1 v2)) := ⟨_, rfl⟩
              replace yq5_2 : wq5.cell? ⟨b3_6, 2, none⟩ = some (.int .i32 D2.v) := by rw [hD2]; exact yq5_2
              have HD2 := hide hD2
              clear hD2
              obtain ⟨D3, hD3⟩ : ∃ x, x = addsW P3 (andW N3 (sensedM v0 v1 v2)) := ⟨_, rfl⟩
              replace yq5_3 : wq5.cell? ⟨b3_6, 3, none⟩ = some (.int .i32 D3.v) := by rw [hD3]; exact yq5_3
              have HD3 := hide hD3
              clear hD3
              clear yr5 yr6 yr7 yr8 fr5_3
              go_wp2_with fail
              refine (weven_calls b D0 D1 D2 D3 _ _ (by omega) pq5).mono ?_
              rintro e wz6 ⟨rfl, pl6, htX⟩
              have y6_0 := htX.cell yr0 fr5_0
              have y6_1 := htX.cell yr1 fr5_1
              have y6_2 := htX.cell yr2 fr5_1
              have y6_3 := htX.cell yr3 fr5_1
              have y6_4 := htX.cell yr4 fr5_1
              have y6_5 := htX.cell yq5_0 fr5_2
              have y6_6 := htX.cell yq5_1 fr5_2
              have y6_7 := htX.cell yq5_2 fr5_2
              have y6_8 := htX.cell yq5_3 fr5_2
              have fr6_0 := htX.far (World.block_lt_of_cell? _ _ yr0) fr5_0
              have fr6_1 := htX.far (World.block_lt_of_cell? _ _ yr1) fr5_1
              have fr6_2 := htX.far (World.block_lt_of_cell? _ _ yq5_0) fr5_2
              have fr6_3 := htX.far m2.lt fr5_4
              have fr6_4 := htX.far m5.lt fr5_5
              have HC6 := hide (HC5.out.trans htX)
              replace m1 := m1.chg htX.chg fr5_1
              replace m2 := m2.chg htX.chg fr5_4
              replace m5 := m5.chg htX.chg fr5_5
              clear htX yr0 yr1 yr2 yr3 yr4 yq5_0 yq5_1 yq5_2 yq5_3 fr5_0 fr5_1 fr5_2 fr5_4 fr5_5 pq5 HC5
              have na6_0 : wz6.heap.size ≠ w.heap.size := by have h1 : w.heap.size < wz6.heap.size := World.block_lt_of_cell? _ _ y6_0; omega
              have na6_1 : wz6.heap.size ≠ w.heap.size + 1 := by have h1 : w.heap.size + 1 < wz6.heap.size := World.block_lt_of_cell? _ _ y6_1; omega
              have na6_2 : wz6.heap.size ≠ b3_6 := by have h1 : b3_6 < wz6.heap.size := World.block_lt_of_cell? _ _ y6_5; omega
              have na6_3 : wz6.heap.size ≠ w.heap.size + 1 + 1 := by have h1 : w.heap.size + 1 + 1 < wz6.heap.size := m2.lt; omega
              have na6_4 : wz6.heap.size ≠ w.heap.size + 1 + 1 + 1 + 1 + 1 := by have h1 : w.heap.size + 1 + 1 + 1 + 1 + 1 < wz6.heap.size := m5.lt; omega
              have hal7 := (Chg.refl wz6 []).alloc (.cells #[.int .i32 ((evenW D0 D1 D2 D3).a).v, .int .i32 ((evenW D0 D1 D2 D3).b).v, .int .i32 ((evenW D0 D1 D2 D3).c).v, .int .i32 ((evenW D0 D1 D2 D3).d).v] 27)
              have mn7 := Blk.new wz6 27 [.int .i32 ((evenW D0 D1 D2 D3).a).v, .int .i32 ((evenW D0 D1 D2 D3).b).v, .int .i32 ((evenW D0 D1 D2 D3).c).v, .int .i32 ((evenW D0 D1 D2 D3).d).v]
              have fn7 := far_of pl6 hal7 wz6.heap.size (Nat.le_refl _)
              replace m1 := m1.chg hal7 (by simp)
              replace m2 := m2.chg hal7 (by simp)
              replace m5 := m5.chg hal7 (by simp)
              have y7_0 := hal7.cell y6_0 (by simp)
              have y7_1 := hal7.cell y6_1 (by simp)
              have y7_2 := hal7.cell y6_2 (by simp)
              have y7_3 := hal7.cell y6_3 (by simp)
              have y7_4 := hal7.cell y6_4 (by simp)
              have y7_5 := hal7.cell y6_5 (by simp)
              have y7_6 := hal7.cell y6_6 (by simp)
              have y7_7 := hal7.cell y6_7 (by simp)
              have y7_8 := hal7.cell y6_8 (by simp)
              have hd7 := dof_chg pl6 hal7 (by simp)
              have fr7_0 := fr6_0
              rw [← hd7] at fr7_0
              have fr7_1 := fr6_1
              rw [← hd7] at fr7_1
              have fr7_2 := fr6_2
              rw [← hd7] at fr7_2
              have fr7_3 := fr6_3
              rw [← hd7] at fr7_3
              have fr7_4 := fr6_4
              rw [← hd7] at fr7_4
              have HC7 := hide (HC6.out.trans (Turn.call pl6 hal7))
              have pl7 := pl6.chg hal7 (by simp)
              have yn7_0 : (wz6.alloc (.cells #[.int .i32 ((evenW D0 D1 D2 D3).a).v, .int .i32 ((evenW D0 D1 D2 D3).b).v, .int .i32 ((evenW D0 D1 D2 D3).c).v, .int .i32 ((evenW D0 D1 D2 D3).d).v] 27)).cell? ⟨wz6.heap.size, 0, none⟩ = some (.int .i32 ((evenW D0 D1 D2 D3).a).v) := mn7.cell' (i := 0) rfl
              have yn7_1 : (wz6.alloc (.cells #[.int .i32 ((evenW D0 D1 D2 D3).a).v, .int .i32 ((evenW D0 D1 D2 D3).b).v, .int .i32 ((evenW D0 D1 D2 D3).c).v, .int .i32 ((evenW D0 D1 D2 D3).d).v] 27)).cell? ⟨wz6.heap.size, 1, none⟩ = some (.int .i32 ((evenW D0 D1 D2 D3).b).v) := mn7.cell' (i := 1) rfl
              have yn7_2 : (wz6.alloc (.cells #[.int .i32 ((evenW D0 D1 D2 D3).a).v, .int .i32 ((evenW D0 D1 D2 D3).b).v, .int .i32 ((evenW D0 D1 D2 D3).c).v, .int .i32 ((evenW D0 D1 D2 D3).d).v] 27)).cell? ⟨wz6.heap.size, 2, none⟩ = some (.int .i32 ((evenW D0 D1 D2 D3).c).v) := mn7.cell' (i := 2) rfl
              have yn7_3 : (wz6.alloc (.cells #[.int .i32 ((evenW D0 D1 D2 D3).a).v, .int .i32 ((evenW D0 D1 D2 D3).b).v, .int .i32 ((evenW D0 D1 D2 D3).c).v, .int .i32 ((evenW D0 D1 D2 D3).d).v] 27)).cell? ⟨wz6.heap.size, 3, none⟩ = some (.int .i32 ((evenW D0 D1 D2 D3).d).v) := mn7.cell' (i := 3) rfl
              clear hal7 hd7 mn7 y6_0 y6_1 y6_2 y6_3 y6_4 y6_5 y6_6 y6_7 y6_8 fr6_0 fr6_1 fr6_2 fr6_3 fr6_4 pl6 HC6
              go_wp2_with fail
              generalize (wz6.alloc (.cells #[.int .i32 ((evenW D0 D1 D2 D3).a).v, .int .i32 ((evenW D0 D1 D2 D3).b).v, .int .i32 ((evenW D0 D1 D2 D3).c).v, .int .i32 ((evenW D0 D1 D2 D3).d).v] 27)) = wz7 at *
              generalize wz6.heap.size = bo7 at *
              obtain ⟨E0, hE0⟩ : ∃ x, x = (evenW D0 D1 D2 D3).a := ⟨_, rfl⟩
              replace yn7_0 : wz7.cell? ⟨bo7, 0, none⟩ = some (.int .i32 E0.v) := by rw [hE0]; exact yn7_0
              have HE0 := hide hE0
              clear hE0
              obtain ⟨E1, hE1⟩ : ∃ x, x = (evenW D0 D1 D2 D3).b := ⟨_, rfl⟩
              replace yn7_1 : wz7.cell? ⟨bo7, 1, none⟩ = some (.int .i32 E1.v) := by rw [hE1]; exact yn7_1
              have HE1 := hide hE1
              clear hE1
              obtain ⟨E2, hE2⟩ : ∃ x, x = (evenW D0 D1 D2 D3).c := ⟨_, rfl⟩
              replace yn7_2 : wz7.cell? ⟨bo7, 2, none⟩ = some (.int .i32 E2.v) := by rw [hE2]; exact yn7_2
              have HE2 := hide hE2
              clear hE2
              obtain ⟨E3, hE3⟩ : ∃ x, x = (evenW D0 D1 D2 D3).d := ⟨_, rfl⟩
              replace yn7_3 : wz7.cell? ⟨bo7, 3, none⟩ = some (.int .i32 E3.v) := by rw [hE3]; exact yn7_3
              have HE3 := hide hE3
              clear hE3
              clear y7_5 y7_6 y7_7 y7_8 fr7_2
              obtain ⟨LN8, hLN8⟩ : ∃ l : List Value, l = [.int .i32 (upW (u0) (12)).v, .int .i32 (upW (u1) (12)).v, .int .i32 (upW (u2) (12)).v] := ⟨_, rfl⟩
              obtain ⟨LO8, hLO8⟩ : ∃ l : List Value, l = [.int .i32 (u0).v, .int .i32 (u1).v, .int .i32 (u2).v] := ⟨_, rfl⟩
              have HLN8 := hide hLN8
              have HLO8 := hide hLO8
              clear hLN8 hLO8
              have HB8 : Hid (Blk wz7 (w.heap.size + 1 + 1) 22 (LN8.take 0 ++ LO8.drop 0)) := hide (by rw [HLN8.out, HLO8.out]; exact m2)
              have HQ8 : Hid (Chg wz7 wz7 [w.heap.size + 1 + 1]) := hide (Chg.refl _ _)
              go_loopw [64] (fun i wr => ∃ k : Nat, k ≤ 3 ∧ i = .int .i64 k ∧ Hid (Chg wz7 wr [w.heap.size + 1 + 1]) ∧ Hid (Blk wr (w.heap.size + 1 + 1) 22 (LN8.take k ++ LO8.drop k))) (fun i _ => 3 - (intOf i).toNat)
              case atStart => exact ⟨0, Nat.zero_le _, rfl, HQ8, HB8⟩
              case round =>
                obtain ⟨k, hk, rfl, HQ, HB⟩ := hrel
                have yr0 := HQ.out.cell y7_0 (by simp; try omega)
                have yr1 := HQ.out.cell y7_1 (by simp; try omega)
                have yr2 := HQ.out.cell y7_2 (by simp; try omega)
                have yr3 := HQ.out.cell y7_3 (by simp; try omega)
                have yr4 := HQ.out.cell y7_4 (by simp; try omega)
                have yr5 := HQ.out.cell yn7_0 (by simp; try omega)
                have yr6 := HQ.out.cell yn7_1 (by simp; try omega)
                have yr7 := HQ.out.cell yn7_2 (by simp; try omega)
                have yr8 := HQ.out.cell yn7_3 (by simp; try omega)
                rcases (by omega : k = 0 ∨ k = 1 ∨ k = 2 ∨ k = 3) with rfl | rfl | rfl | rfl
                · have mo : Blk wr (w.heap.size + 1 + 1) 22 [.int .i32 (u0).v, .int .i32 (u1).v, .int .i32 (u2).v] := by have h := HB.out; rw [HLN8.out, HLO8.out] at h; exact h
                  clear HB HB8 HQ8 yr1 yr2 yr3 yr4 yr5 yr6 yr7 yr8 y7_0 y7_1 y7_2 y7_3 y7_4 yn7_0 yn7_1 yn7_2 yn7_3 fr7_0 fr7_1 fr7_3 fr7_4 fn7  pl7 HC7  m1 m2 m5
                  go_wp2_with fail
                  obtain ⟨CL, hCL⟩ : ∃ l : List (Addr × Value), l = [(⟨w.heap.size, 0, none⟩, .iface 74 (.pointer (some ⟨b, 0, none⟩)))] := ⟨_, rfl⟩
                  have HS0 : Sd wr [w.heap.size + 1 + 1] CL wr.drew := ⟨(Chg.refl wr _).drew, by rw [hCL]; simp only [List.forall_mem_cons]; exact ⟨yr0, by simp⟩⟩
                  have hU0 : ∀ p ∈ CL, p.1.block ∈ ([w.heap.size] : List Nat) := by rw [hCL]; simp only [List.forall_mem_cons]; exact ⟨by simp, by simp⟩
                  have hlt0 : ∀ u ∈ ([w.heap.size] : List Nat), u < wr.heap.size := by simp only [List.forall_mem_cons]; exact ⟨World.block_lt_of_cell? _ _ yr0, by simp⟩
                  refine Reg.wp_region (Reg.of 8 _ _ [.int .i64 0, .agg #[.iface 74 (.pointer (some ⟨b, 0, none⟩))], .int .i64 0, .pointer (some ⟨w.heap.size + 1 + 1, 0, none⟩), .int .i32 (u0).v, .int .i32 (upW (u0) (12)).v, .pointer (some ⟨w.heap.size + 1 + 1, 0, none⟩), undef] [fun _ => undef, fun _ => undef, fun _ => undef, fun _ => undef, fun _ => undef, fun _ => undef, fun _ => undef, fun _ => undef] [.val, .val, .val, .val, .val, .val, .val, .put 8 [.int .i32 (upW (u0) (12)).v, .int .i32 (u1).v, .int .i32 (u2).v]] [(22, [.int .i32 (u0).v, .int .i32 (u1).v, .int .i32 (u2).v])] [w.heap.size + 1 + 1] [] (fun _ => Sd wr [w.heap.size + 1 + 1] CL) (Fd wr [w.heap.size + 1 + 1] [w.heap.size])) (Reg.good_of _ 110 (by kernel_rfl) (by kernel_rfl)) (stands_d _ wr [w.heap.size + 1 + 1] [w.heap.size] CL rfl rfl rfl hU0 hlt0) (by kernel_rfl) HS0 (hold_of (by kernel_rfl) ?holdwz8101) (ne_of (by kernel_rfl) ?hnewz8101) (Reg.steps_of _ rfl ⟨?_, ?_, ?_, ?_, ?_, ?_, ?_, ?_, trivial⟩) ?hendwz8101
                  case holdwz8101 =>
                    intro k T c hk
                    cases k with
                    | zero => simp only [List.getElem?_cons_zero, Option.some.injEq, Prod.mk.injEq] at hk; obtain ⟨rfl, rfl⟩ := hk; exact ⟨mo, ⟨by simp; try omega, .inl (by simp)⟩⟩
                    | succ k =>
                      simp at hk
                  case hnewz8101 => intro i j hi hj hne; simp at hi hj; omega
                  case hendwz8101 =>
                    intro wz8101 γ hSz hBz hnez hOz
                    replace hSz : Sd wr [w.heap.size + 1 + 1] CL wz8101 := hSz
                    have ob0 : Blk wz8101 (w.heap.size + 1 + 1) 22 [.int .i32 (upW (u0) (12)).v, .int .i32 (u1).v, .int .i32 (u2).v] := by have h := (hBz 8 22 [.int .i32 (u0).v, .int .i32 (u1).v, .int .i32 (u2).v] (by kernel_rfl) [.int .i32 (upW (u0) (12)).v, .int .i32 (u1).v, .int .i32 (u2).v] (by kernel_rfl)).1; rw [hOz 8 (Nat.le_trans (Nat.le_of_eq (by kernel_rfl : _ = 8)) (by decide : 8 ≤ 8))] at h; exact h
                    refine end_of [(67, .int .i64 0), (68, .agg #[.iface 74 (.pointer (some ⟨b, 0, none⟩))]), (69, .int .i64 0), (70, .pointer (some ⟨w.heap.size + 1 + 1, 0, none⟩)), (71, .int .i32 (u0).v), (72, .int .i32 (upW (u0) (12)).v), (73, .pointer (some ⟨w.heap.size + 1 + 1, 0, none⟩))] (by kernel_rfl) ?_
                    clear hBz hnez hOz HS0 hU0
                    simp only [Reg.of, List.foldl_cons, List.foldl_nil, List.setIfInBounds_toArray, List.set_cons_zero, List.set_cons_succ]
                    have HC8101 := hide (HQ.out.trans hSz.chg (D := [w.heap.size + 1 + 1]) (by simp))
                    have y8101_0 : wz8101.cell? ⟨w.heap.size, 0, none⟩ = some (.iface 74 (.pointer (some ⟨b, 0, none⟩))) := hSz.at_ 0 _ _ (by rw [hCL]; rfl)
                    clear hSz hCL hlt0 CL yr0 HQ mo
                    have mo8101_0 := ob0
                    clear ob0
                    go_wp2
                    go_roundw
                    case rel => exact ⟨1, by omega, by go_num, HC8101, hide (by rw [HLN8.out, HLO8.out]; exact mo8101_0)⟩
                    case measure => simp [intOf]
                  · intro a wu γ nph K hp hK
                    obtain ⟨e19a, e19b⟩ := hp.old_ 19 (.int .i64 0)
                    have hk := hK.pure (.int .i64 0) hp.S
                    clear hp hK
                    go_simp
                    exact hk
                  · intro a wu γ nph K hp hK
                    obtain ⟨e5a, e5b⟩ := hp.old_ 5 (.pointer (some ⟨w.heap.size, 0, none⟩))
                    have hS : Sd wr [w.heap.size + 1 + 1] CL wu := hp.S
                    have c0 := hS.at_ 0 ⟨w.heap.size, 0, none⟩ (.iface 74 (.pointer (some ⟨b, 0, none⟩))) (by rw [hCL]; rfl)
                    have hk := hK.pure (.agg #[.iface 74 (.pointer (some ⟨b, 0, none⟩))]) hp.S
                    clear hp hK hS
                    go_simp
                    exact hk
                  · intro a wu γ nph K hp hK
                    obtain ⟨e19a, e19b⟩ := hp.old_ 19 (.int .i64 0)
                    have hk := hK.pure (.int .i64 0) hp.S
                    clear hp hK
                    go_simp
                    exact hk
                  · intro a wu γ nph K hp hK
                    obtain ⟨e7a, e7b⟩ := hp.old_ 7 (.pointer (some ⟨w.heap.size + 1 + 1, 0, none⟩))
                    obtain ⟨e69a, e69b⟩ := hp.dep_ 69 2 (.int .i64 0)
                    have hk := hK.pure (.pointer (some ⟨w.heap.size + 1 + 1, 0, none⟩)) hp.S
                    clear hp hK
                    go_simp
                    exact hk
                  · intro a wu γ nph K hp hK
                    obtain ⟨e70a, e70b⟩ := hp.dep_ 70 3 (.pointer (some ⟨w.heap.size + 1 + 1, 0, none⟩))
                    have hbo0_0 := (hp.blk_ 8 (T := 22) (c := [.int .i32 (u0).v, .int .i32 (u1).v, .int .i32 (u2).v])).1
                    rw [hp.old 8 (Nat.le_trans (Nat.le_of_eq (by kernel_rfl : _ = 8)) (by decide : 8 ≤ 8))] at hbo0_0
                    have co0_0 : wu.cell? ⟨w.heap.size + 1 + 1, 0, none⟩ = some (.int .i32 (u0).v) := hbo0_0.cell' (i := 0) rfl
                    have hk := hK.pure (.int .i32 (u0).v) hp.S
                    clear hp hK
                    go_simp
                    exact hk
                  · intro a wu γ nph K hp hK
                    obtain ⟨e68a, e68b⟩ := hp.dep_ 68 1 (.agg #[.iface 74 (.pointer (some ⟨b, 0, none⟩))])
                    obtain ⟨e71a, e71b⟩ := hp.dep_ 71 4 (.int .i32 (u0).v)
                    have hS : Sd wr [w.heap.size + 1 + 1] CL wu := hp.S
                    have hk := hK.call (.int .i32 (upW (u0) (12)).v)
                    clear hp hK
                    go_simp
                    refine (w_up _ _ _ _ (by decide)).mono ?_
                    rintro e w7 ⟨rfl, hcX⟩
                    exact hk _ (hS.call hcX) (Reg.keep_call _ rfl hcX)
                  · intro a wu γ nph K hp hK
                    obtain ⟨e7a, e7b⟩ := hp.old_ 7 (.pointer (some ⟨w.heap.size + 1 + 1, 0, none⟩))
                    obtain ⟨e67a, e67b⟩ := hp.dep_ 67 0 (.int .i64 0)
                    have hk := hK.pure (.pointer (some ⟨w.heap.size + 1 + 1, 0, none⟩)) hp.S
                    clear hp hK
                    go_simp
                    exact hk
                  · intro a wu γ nph K hp hK
                    obtain ⟨e73a, e73b⟩ := hp.dep_ 73 6 (.pointer (some ⟨w.heap.size + 1 + 1, 0, none⟩))
                    obtain ⟨e72a, e72b⟩ := hp.dep_ 72 5 (.int .i32 (upW (u0) (12)).v)
                    have hb := (hp.blk_ 8 (T := 22) (c := [.int .i32 (u0).v, .int .i32 (u1).v, .int .i32 (u2).v])).1
                    have hk := hK.put 8 22 [.int .i32 (u0).v, .int .i32 (u1).v, .int .i32 (u2).v] [.int .i32 (upW (u0) (12)).v, .int .i32 (u1).v, .int .i32 (u2).v]
                    have hO : γ 8 = w.heap.size + 1 + 1 := hp.old 8 (Nat.le_trans (Nat.le_of_eq (by kernel_rfl : _ = 8)) (by decide : 8 ≤ 8))
                    rw [hO] at hb hk
                    have z0 := hb.cell' (i := 0) rfl
                    have f0 := hb.frozen 0
                    clear hp hK
                    clear hO
                    go_simp
                    exact hk _ (hb.set_ 0 _) ((Chg.refl wu _).setCell _ _ (.inl (by simp))) (by simp)
                · have mo : Blk wr (w.heap.size + 1 + 1) 22 [.int .i32 (upW (u0) (12)).v, .int .i32 (u1).v, .int .i32 (u2).v] := by have h := HB.out; rw [HLN8.out, HLO8.out] at h; exact h
                  clear HB HB8 HQ8 yr1 yr2 yr3 yr4 yr5 yr6 yr7 yr8 y7_0 y7_1 y7_2 y7_3 y7_4 yn7_0 yn7_1 yn7_2 yn7_3 fr7_0 fr7_1 fr7_3 fr7_4 fn7  pl7 HC7  m1 m2 m5
                  go_wp2_with fail
                  obtain ⟨CL, hCL⟩ : ∃ l : List (Addr × Value), l = [(⟨w.heap.size, 0, none⟩, .iface 74 (.pointer (some ⟨b, 0, none⟩)))] := ⟨_, rfl⟩
                  have HS0 : Sd wr [w.heap.size + 1 + 1] CL wr.drew := ⟨(Chg.refl wr _).drew, by rw [hCL]; simp only [List.forall_mem_cons]; exact ⟨yr0, by simp⟩⟩
                  have hU0 : ∀ p ∈ CL, p.1.block ∈ ([w.heap.size] : List Nat) := by rw [hCL]; simp only [List.forall_mem_cons]; exact ⟨by simp, by simp⟩
                  have hlt0 : ∀ u ∈ ([w.heap.size] : List Nat), u < wr.heap.size := by simp only [List.forall_mem_cons]; exact ⟨World.block_lt_of_cell? _ _ yr0, by simp⟩
                  refine Reg.wp_region (Reg.of 8 _ _ [.int .i64 1, .agg #[.iface 74 (.pointer (some ⟨b, 0, none⟩))], .int .i64 1, .pointer (some ⟨w.heap.size + 1 + 1, 1, none⟩), .int .i32 (u1).v, .int .i32 (upW (u1) (12)).v, .pointer (some ⟨w.heap.size + 1 + 1, 1, none⟩), undef] [fun _ => undef, fun _ => undef, fun _ => undef, fun _ => undef, fun _ => undef, fun _ => undef, fun _ => undef, fun _ => undef] [.val, .val, .val, .val, .val, .val, .val, .put 8 [.int .i32 (upW (u0) (12)).v, .int .i32 (upW (u1) (12)).v, .int .i32 (u2).v]] [(22, [.int .i32 (upW (u0) (12)).v, .int .i32 (u1).v, .int .i32 (u2).v])] [w.heap.size + 1 + 1] [] (fun _ => Sd wr [w.heap.size + 1 + 1] CL) (Fd wr [w.heap.size + 1 + 1] [w.heap.size])) (Reg.good_of _ 110 (by kernel_rfl) (by kernel_rfl)) (stands_d _ wr [w.heap.size + 1 + 1] [w.heap.size] CL rfl rfl rfl hU0 hlt0) (by kernel_rfl) HS0 (hold_of (by kernel_rfl) ?holdwz8201) (ne_of (by kernel_rfl) ?hnewz8201) (Reg.steps_of _ rfl ⟨?_, ?_, ?_, ?_, ?_, ?_, ?_, ?_, trivial⟩) ?hendwz8201
                  case holdwz8201 =>
                    intro k T c hk
                    cases k with
                    | zero => simp only [List.getElem?_cons_zero, Option.some.injEq, Prod.mk.injEq] at hk; obtain ⟨rfl, rfl⟩ := hk; exact ⟨mo, ⟨by simp; try omega, .inl (by simp)⟩⟩
                    | succ k =>
                      simp at hk
                  case hnewz8201 => intro i j hi hj hne; simp at hi hj; omega
                  case hendwz8201 =>
                    intro wz8201 γ hSz hBz hnez hOz
                    replace hSz : Sd wr [w.heap.size + 1 + 1] CL wz8201 := hSz
                    have ob0 : Blk wz8201 (w.heap.size + 1 + 1) 22 [.int .i32 (upW (u0) (12)).v, .int .i32 (upW (u1) (12)).v, .int .i32 (u2).v] := by have h := (hBz 8 22 [.int .i32 (upW (u0) (12)).v, .int .i32 (u1).v, .int .i32 (u2).v] (by kernel_rfl) [.int .i32 (upW (u0) (12)).v, .int .i32 (upW (u1) (12)).v, .int .i32 (u2).v] (by kernel_rfl)).1; rw [hOz 8 (Nat.le_trans (Nat.le_of_eq (by kernel_rfl : _ = 8)) (by decide : 8 ≤ 8))] at h; exact h
                    refine end_of [(67, .int .i64 1), (68, .agg #[.iface 74 (.pointer (some ⟨b, 0, none⟩))]), (69, .int .i64 1), (70, .pointer (some ⟨w.heap.size + 1 + 1, 1, none⟩)), (71, .int .i32 (u1).v), (72, .int .i32 (upW (u1) (12)).v), (73, .pointer (some ⟨w.heap.size + 1 + 1, 1, none⟩))] (by kernel_rfl) ?_
                    clear hBz hnez hOz HS0 hU0
                    simp only [Reg.of, List.foldl_cons, List.foldl_nil, List.setIfInBounds_toArray, List.set_cons_zero, List.set_cons_succ]
                    have HC8201 := hide (HQ.out.trans hSz.chg (D := [w.heap.size + 1 + 1]) (by simp))
                    have y8201_0 : wz8201.cell? ⟨w.heap.size, 0, none⟩ = some (.iface 74 (.pointer (some ⟨b, 0, none⟩))) := hSz.at_ 0 _ _ (by rw [hCL]; rfl)
                    clear hSz hCL hlt0 CL yr0 HQ mo
                    have mo8201_0 := ob0
                    clear ob0
                    go_wp2
                    go_roundw
                    case rel => exact ⟨2, by omega, by go_num, HC8201, hide (by rw [HLN8.out, HLO8.out]; exact mo8201_0)⟩
                    case measure => simp [intOf]
                  · intro a wu γ nph K hp hK
                    obtain ⟨e19a, e19b⟩ := hp.old_ 19 (.int .i64 1)
                    have hk := hK.pure (.int .i64 1) hp.S
                    clear hp hK
                    go_simp
                    exact hk
                  · intro a wu γ nph K hp hK
                    obtain ⟨e5a, e5b⟩ := hp.old_ 5 (.pointer (some ⟨w.heap.size, 0, none⟩))
                    have hS : Sd wr [w.heap.size + 1 + 1] CL wu := hp.S
                    have c0 := hS.at_ 0 ⟨w.heap.size, 0, none⟩ (.iface 74 (.pointer (some ⟨b, 0, none⟩))) (by rw [hCL]; rfl)
                    have hk := hK.pure (.agg #[.iface 74 (.pointer (some ⟨b, 0, none⟩))]) hp.S
                    clear hp hK hS
                    go_simp
                    exact hk
                  · intro a wu γ nph K hp hK
                    obtain ⟨e19a, e19b⟩ := hp.old_ 19 (.int .i64 1)
                    have hk := hK.pure (.int .i64 1) hp.S
                    clear hp hK
                    go_simp
                    exact hk
                  · intro a wu γ nph K hp hK
                    obtain ⟨e7a, e7b⟩ := hp.old_ 7 (.pointer (some ⟨w.heap.size + 1 + 1, 0, none⟩))
                    obtain ⟨e69a, e69b⟩ := hp.dep_ 69 2 (.int .i64 1)
                    have hk := hK.pure (.pointer (some ⟨w.heap.size + 1 + 1, 1, none⟩)) hp.S
                    clear hp hK
                    go_simp
                    exact hk
                  · intro a wu γ nph K hp hK
                    obtain ⟨e70a, e70b⟩ := hp.dep_ 70 3 (.pointer (some ⟨w.heap.size + 1 + 1, 1, none⟩))
                    have hbo0_1 := (hp.blk_ 8 (T := 22) (c := [.int .i32 (upW (u0) (12)).v, .int .i32 (u1).v, .int .i32 (u2).v])).1
                    rw [hp.old 8 (Nat.le_trans (Nat.le_of_eq (by kernel_rfl : _ = 8)) (by decide : 8 ≤ 8))] at hbo0_1
                    have co0_1 : wu.cell? ⟨w.heap.size + 1 + 1, 1, none⟩ = some (.int .i32 (u1).v) := hbo0_1.cell' (i := 1) rfl
                    have hk := hK.pure (.int .i32 (u1).v) hp.S
                    clear hp hK
                    go_simp
                    exact hk
                  · intro a wu γ nph K hp hK
                    obtain ⟨e68a, e68b⟩ := hp.dep_ 68 1 (.agg #[.iface 74 (.pointer (some ⟨b, 0, none⟩))])
                    obtain ⟨e71a, e71b⟩ := hp.dep_ 71 4 (.int .i32 (u1).v)
                    have hS : Sd wr [w.heap.size + 1 + 1] CL wu := hp.S
                    have hk := hK.call (.int .i32 (upW (u1) (12)).v)
                    clear hp hK
                    go_simp
                    refine (w_up _ _ _ _ (by decide)).mono ?_
                    rintro e w7 ⟨rfl, hcX⟩
                    exact hk _ (hS.call hcX) (Reg.keep_call _ rfl hcX)
                  · intro a wu γ nph K hp hK
                    obtain ⟨e7a, e7b⟩ := hp.old_ 7 (.pointer (some ⟨w.heap.size + 1 + 1, 0, none⟩))
                    obtain ⟨e67a, e67b⟩ := hp.dep_ 67 0 (.int .i64 1)
                    have hk := hK.pure (.pointer (some ⟨w.heap.size + 1 + 1, 1, none⟩)) hp.S
                    clear hp hK
                    go_simp
                    exact hk
                  · intro a wu γ nph K hp hK
                    obtain ⟨e73a, e73b⟩ := hp.dep_ 73 6 (.pointer (some ⟨w.heap.size + 1 + 1, 1, none⟩))
                    obtain ⟨e72a, e72b⟩ := hp.dep_ 72 5 (.int .i32 (upW (u1) (12)).v)
                    have hb := (hp.blk_ 8 (T := 22) (c := [.int .i32 (upW (u0) (12)).v, .int .i32 (u1).v, .int .i32 (u2).v])).1
                    have hk := hK.put 8 22 [.int .i32 (upW (u0) (12)).v, .int .i32 (u1).v, .int .i32 (u2).v] [.int .i32 (upW (u0) (12)).v, .int .i32 (upW (u1) (12)).v, .int .i32 (u2).v]
                    have hO : γ 8 = w.heap.size + 1 + 1 := hp.old 8 (Nat.le_trans (Nat.le_of_eq (by kernel_rfl : _ = 8)) (by decide : 8 ≤ 8))
                    rw [hO] at hb hk
                    have z1 := hb.cell' (i := 1) rfl
                    have f1 := hb.frozen 1
                    clear hp hK
                    clear hO
                    go_simp
                    exact hk _ (hb.set_ 1 _) ((Chg.refl wu _).setCell _ _ (.inl (by simp))) (by simp)
                · have mo : Blk wr (w.heap.size + 1 + 1) 22 [.int .i32 (upW (u0) (12)).v, .int .i32 (upW (u1) (12)).v, .int .i32 (u2).v] := by have h := HB.out; rw [HLN8.out, HLO8.out] at h; exact h
                  clear HB HB8 HQ8 yr1 yr2 yr3 yr4 yr5 yr6 yr7 yr8 y7_0 y7_1 y7_2 y7_3 y7_4 yn7_0 yn7_1 yn7_2 yn7_3 fr7_0 fr7_1 fr7_3 fr7_4 fn7  pl7 HC7  m1 m2 m5
                  go_wp2_with fail
                  obtain ⟨CL, hCL⟩ : ∃ l : List (Addr × Value), l = [(⟨w.heap.size, 0, none⟩, .iface 74 (.pointer (some ⟨b, 0, none⟩)))] := ⟨_, rfl⟩
                  have HS0 : Sd wr [w.heap.size + 1 + 1] CL wr.drew := ⟨(Chg.refl wr _).drew, by rw [hCL]; simp only [List.forall_mem_cons]; exact ⟨yr0, by simp⟩⟩
                  have hU0 : ∀ p ∈ CL, p.1.block ∈ ([w.heap.size] : List Nat) := by rw [hCL]; simp only [List.forall_mem_cons]; exact ⟨by simp, by simp⟩
                  have hlt0 : ∀ u ∈ ([w.heap.size] : List Nat), u < wr.heap.size := by simp only [List.forall_mem_cons]; exact ⟨World.block_lt_of_cell? _ _ yr0, by simp⟩
                  refine Reg.wp_region (Reg.of 8 _ _ [.int .i64 2, .agg #[.iface 74 (.pointer (some ⟨b, 0, none⟩))], .int .i64 2, .pointer (some ⟨w.heap.size + 1 + 1, 2, none⟩), .int .i32 (u2).v, .int .i32 (upW (u2) (12)).v, .pointer (some ⟨w.heap.size + 1 + 1, 2, none⟩), undef] [fun _ => undef, fun _ => undef, fun _ => undef, fun _ => undef, fun _ => undef, fun _ => undef, fun _ => undef, fun _ => undef] [.val, .val, .val, .val, .val, .val, .val, .put 8 [.int .i32 (upW (u0) (12)).v, .int .i32 (upW (u1) (12)).v, .int .i32 (upW (u2) (12)).v]] [(22, [.int .i32 (upW (u0) (12)).v, .int .i32 (upW (u1) (12)).v, .int .i32 (u2).v])] [w.heap.size + 1 + 1] [] (fun _ => Sd wr [w.heap.size + 1 + 1] CL) (Fd wr [w.heap.size + 1 + 1] [w.heap.size])) (Reg.good_of _ 110 (by kernel_rfl) (by kernel_rfl)) (stands_d _ wr [w.heap.size + 1 + 1] [w.heap.size] CL rfl rfl rfl hU0 hlt0) (by kernel_rfl) HS0 (hold_of (by kernel_rfl) ?holdwz8301) (ne_of (by kernel_rfl) ?hnewz8301) (Reg.steps_of _ rfl ⟨?_, ?_, ?_, ?_, ?_, ?_, ?_, ?_, trivial⟩) ?hendwz8301
                  case holdwz8301 =>
                    intro k T c hk
                    cases k with
                    | zero => simp only [List.getElem?_cons_zero, Option.some.injEq, Prod.mk.injEq] at hk; obtain ⟨rfl, rfl⟩ := hk; exact ⟨mo, ⟨by simp; try omega, .inl (by simp)⟩⟩
                    | succ k =>
                      simp at hk
                  case hnewz8301 => intro i j hi hj hne; simp at hi hj; omega
                  case hendwz8301 =>
                    intro wz8301 γ hSz hBz hnez hOz
                    replace hSz : Sd wr [w.heap.size + 1 + 1] CL wz8301 := hSz
                    have ob0 : Blk wz8301 (w.heap.size + 1 + 1) 22 [.int .i32 (upW (u0) (12)).v, .int .i32 (upW (u1) (12)).v, .int .i32 (upW (u2) (12)).v] := by have h := (hBz 8 22 [.int .i32 (upW (u0) (12)).v, .int .i32 (upW (u1) (12)).v, .int .i32 (u2).v] (by kernel_rfl) [.int .i32 (upW (u0) (12)).v, .int .i32 (upW (u1) (12)).v, .int .i32 (upW (u2) (12)).v] (by kernel_rfl)).1; rw [hOz 8 (Nat.le_trans (Nat.le_of_eq (by kernel_rfl : _ = 8)) (by decide : 8 ≤ 8))] at h; exact h
                    refine end_of [(67, .int .i64 2), (68, .agg #[.iface 74 (.pointer (some ⟨b, 0, none⟩))]), (69, .int .i64 2), (70, .pointer (some ⟨w.heap.size + 1 + 1, 2, none⟩)), (71, .int .i32 (u2).v), (72, .int .i32 (upW (u2) (12)).v), (73, .pointer (some ⟨w.heap.size + 1 + 1, 2, none⟩))] (by kernel_rfl) ?_
                    clear hBz hnez hOz HS0 hU0
                    simp only [Reg.of, List.foldl_cons, List.foldl_nil, List.setIfInBounds_toArray, List.set_cons_zero, List.set_cons_succ]
                    have HC8301 := hide (HQ.out.trans hSz.chg (D := [w.heap.size + 1 + 1]) (by simp))
                    have y8301_0 : wz8301.cell? ⟨w.heap.size, 0, none⟩ = some (.iface 74 (.pointer (some ⟨b, 0, none⟩))) := hSz.at_ 0 _ _ (by rw [hCL]; rfl)
                    clear hSz hCL hlt0 CL yr0 HQ mo
                    have mo8301_0 := ob0
                    clear ob0
                    go_wp2
                    go_roundw
                    case rel => exact ⟨3, by omega, by go_num, HC8301, hide (by rw [HLN8.out, HLO8.out]; exact mo8301_0)⟩
                    case measure => simp [intOf]
                  · intro a wu γ nph K hp hK
                    obtain ⟨e19a, e19b⟩ := hp.old_ 19 (.int .i64 2)
                    have hk := hK.pure (.int .i64 2) hp.S
                    clear hp hK
                    go_simp
                    exact hk
                  · intro a wu γ nph K hp hK
                    obtain ⟨e5a, e5b⟩ := hp.old_ 5 (.pointer (some ⟨w.heap.size, 0, none⟩))
                    have hS : Sd wr [w.heap.size + 1 + 1] CL wu := hp.S
                    have c0 := hS.at_ 0 ⟨w.heap.size, 0, none⟩ (.iface 74 (.pointer (some ⟨b, 0, none⟩))) (by rw [hCL]; rfl)
                    have hk := hK.pure (.agg #[.iface 74 (.pointer (some ⟨b, 0, none⟩))]) hp.S
                    clear hp hK hS
                    go_simp
                    exact hk
                  · intro a wu γ nph K hp hK
                    obtain ⟨e19a, e19b⟩ := hp.old_ 19 (.int .i64 2)
                    have hk := hK.pure (.int .i64 2) hp.S
                    clear hp hK
                    go_simp
                    exact hk
                  · intro a wu γ nph K hp hK
                    obtain ⟨e7a, e7b⟩ := hp.old_ 7 (.pointer (some ⟨w.heap.size + 1 + 1, 0, none⟩))
                    obtain ⟨e69a, e69b⟩ := hp.dep_ 69 2 (.int .i64 2)
                    have hk := hK.pure (.pointer (some ⟨w.heap.size + 1 + 1, 2, none⟩)) hp.S
                    clear hp hK
                    go_simp
                    exact hk
                  · intro a wu γ nph K hp hK
                    obtain ⟨e70a, e70b⟩ := hp.dep_ 70 3 (.pointer (some ⟨w.heap.size + 1 + 1, 2, none⟩))
                    have hbo0_2 := (hp.blk_ 8 (T := 22) (c := [.int .i32 (upW (u0) (12)).v, .int .i32 (upW (u1) (12)).v, .int .i32 (u2).v])).1
                    rw [hp.old 8 (Nat.le_trans (Nat.le_of_eq (by kernel_rfl : _ = 8)) (by decide : 8 ≤ 8))] at hbo0_2
                    have co0_2 : wu.cell? ⟨w.heap.size + 1 + 1, 2, none⟩ = some (.int .i32 (u2).v) := hbo0_2.cell' (i := 2) rfl
                    have hk := hK.pure (.int .i32 (u2).v) hp.S
                    clear hp hK
                    go_simp
                    exact hk
                  · intro a wu γ nph K hp hK
                    obtain ⟨e68a, e68b⟩ := hp.dep_ 68 1 (.agg #[.iface 74 (.pointer (some ⟨b, 0, none⟩))])
                    obtain ⟨e71a, e71b⟩ := hp.dep_ 71 4 (.int .i32 (u2).v)
                    have hS : Sd wr [w.heap.size + 1 + 1] CL wu := hp.S
                    have hk := hK.call (.int .i32 (upW (u2) (12)).v)
                    clear hp hK
                    go_simp
                    refine (w_up _ _ _ _ (by decide)).mono ?_
                    rintro e w7 ⟨rfl, hcX⟩
                    exact hk _ (hS.call hcX) (Reg.keep_call _ rfl hcX)
                  · intro a wu γ nph K hp hK
                    obtain ⟨e7a, e7b⟩ := hp.old_ 7 (.pointer (some ⟨w.heap.size + 1 + 1, 0, none⟩))
                    obtain ⟨e67a, e67b⟩ := hp.dep_ 67 0 (.int .i64 2)
                    have hk := hK.pure (.pointer (some ⟨w.heap.size + 1 + 1, 2, none⟩)) hp.S
                    clear hp hK
                    go_simp
                    exact hk
                  · intro a wu γ nph K hp hK
                    obtain ⟨e73a, e73b⟩ := hp.dep_ 73 6 (.pointer (some ⟨w.heap.size + 1 + 1, 2, none⟩))
                    obtain ⟨e72a, e72b⟩ := hp.dep_ 72 5 (.int .i32 (upW (u2) (12)).v)
                    have hb := (hp.blk_ 8 (T := 22) (c := [.int .i32 (upW (u0) (12)).v, .int .i32 (upW (u1) (12)).v, .int .i32 (u2).v])).1
                    have hk := hK.put 8 22 [.int .i32 (upW (u0) (12)).v, .int .i32 (upW (u1) (12)).v, .int .i32 (u2).v] [.int .i32 (upW (u0) (12)).v, .int .i32 (upW (u1) (12)).v, .int .i32 (upW (u2) (12)).v]
                    have hO : γ 8 = w.heap.size + 1 + 1 := hp.old 8 (Nat.le_trans (Nat.le_of_eq (by kernel_rfl : _ = 8)) (by decide : 8 ≤ 8))
                    rw [hO] at hb hk
                    have z2 := hb.cell' (i := 2) rfl
                    have f2 := hb.frozen 2
                    clear hp hK
                    clear hO
                    go_simp
                    exact hk _ (hb.set_ 2 _) ((Chg.refl wu _).setCell _ _ (.inl (by simp))) (by simp)
                · have mo : Blk wr (w.heap.size + 1 + 1) 22 [.int .i32 (upW (u0) (12)).v, .int .i32 (upW (u1) (12)).v, .int .i32 (upW (u2) (12)).v] := by have h := HB.out; rw [HLN8.out, HLO8.out] at h; exact h
                  have hq8 := HQ.out
                  have hd8 := dof_chg pl7 hq8 (fun hm => by simp at hm; subst hm; exact fr7_3 pl7.mem)
                  have pq8 := pl7.chg hq8 (fun j hj hm => by simp at hm; subst hm; exact fr7_3 hj)
                  have fr8_0 := fr7_0
                  rw [← hd8] at fr8_0
                  have fr8_1 := fr7_1
                  rw [← hd8] at fr8_1
                  have fr8_2 := fr7_3
                  rw [← hd8] at fr8_2
                  have fr8_3 := fr7_4
                  rw [← hd8] at fr8_3
                  have fr8_4 := fn7
                  rw [← hd8] at fr8_4
                  have HC8 := hide (HC7.out.put pl7 hq8 fr7_3 (by omega))
                  replace m1 := m1.chg hq8 (by simp; try omega)
                  replace m5 := m5.chg hq8 (by simp; try omega)
                  have yq8_0 : wr.cell? ⟨w.heap.size + 1 + 1, 0, none⟩ = some (.int .i32 (upW (u0) (12)).v) := mo.cell' (i := 0) rfl
                  have yq8_1 : wr.cell? ⟨w.heap.size + 1 + 1, 1, none⟩ = some (.int .i32 (upW (u1) (12)).v) := mo.cell' (i := 1) rfl
                  have yq8_2 : wr.cell? ⟨w.heap.size + 1 + 1, 2, none⟩ = some (.int .i32 (upW (u2) (12)).v) := mo.cell' (i := 2) rfl
                  clear y7_0 y7_1 y7_2 y7_3 y7_4 yn7_0 yn7_1 yn7_2 yn7_3 fr7_0 fr7_1 fr7_3 fr7_4 fn7 pl7 HC7 m2 hq8 hd8 HQ HB HB8 HQ8
                  generalize hww8 : wr = wq8 at *
                  clear hww8
                  have mo8 := mo
                  clear mo
                  obtain ⟨G0, hG0⟩ : ∃ x, x = upW (u0) (12) := ⟨_, rfl⟩
                  replace yq8_0 : wq8.cell? ⟨w.heap.size + 1 + 1, 0, none⟩ = some (.int .i32 G0.v) := by rw [hG0]; exact yq8_0
                  have HG0 := hide hG0
                  clear hG0
                  obtain ⟨G1, hG1⟩ : ∃ x, x = upW (u1) (12) := ⟨_, rfl⟩
                  replace yq8_1 : wq8.cell? ⟨w.heap.size + 1 + 1, 1, none⟩ = some (.int .i32 G1.v) := by rw [hG1]; exact yq8_1
                  have HG1 := hide hG1
                  clear hG1
                  obtain ⟨G2, hG2⟩ : ∃ x, x = upW (u2) (12) := ⟨_, rfl⟩
                  replace yq8_2 : wq8.cell? ⟨w.heap.size + 1 + 1, 2, none⟩ = some (.int .i32 G2.v) := by rw [hG2]; exact yq8_2
                  have HG2 := hide hG2
                  clear hG2
                  go_wp2_with fail
                  refine (wrate_calls _ q0 q1 q2 q3 G0 G1 G2 _).mono ?_
                  rintro e wz9 ⟨rfl, hcX⟩
                  replace m1 := m1.chg hcX (by simp)
                  replace m5 := m5.chg hcX (by simp)
                  have y9_0 := hcX.cell yr0 (by simp)
                  have y9_1 := hcX.cell yr1 (by simp)
                  have y9_2 := hcX.cell yr2 (by simp)
                  have y9_3 := hcX.cell yr3 (by simp)
                  have y9_4 := hcX.cell yr4 (by simp)
                  have y9_5 := hcX.cell yr5 (by simp)
                  have y9_6 := hcX.cell yr6 (by simp)
                  have y9_7 := hcX.cell yr7 (by simp)
                  have y9_8 := hcX.cell yr8 (by simp)
                  have y9_9 := hcX.cell yq8_0 (by simp)
                  have y9_10 := hcX.cell yq8_1 (by simp)
                  have y9_11 := hcX.cell yq8_2 (by simp)
                  have hd9 := dof_chg pq8 hcX (by simp)
                  have fr9_0 := fr8_0
                  rw [← hd9] at fr9_0
                  have fr9_1 := fr8_1
                  rw [← hd9] at fr9_1
                  have fr9_2 := fr8_2
                  rw [← hd9] at fr9_2
                  have fr9_3 := fr8_3
                  rw [← hd9] at fr9_3
                  have fr9_4 := fr8_4
                  rw [← hd9] at fr9_4
                  have HC9 := hide (HC8.out.trans (Turn.call pq8 hcX))
                  have pl9 := pq8.chg hcX (by simp)
                  clear hcX hd9 yr0 yr1 yr2 yr3 yr4 yr5 yr6 yr7 yr8 yq8_0 yq8_1 yq8_2 fr8_0 fr8_1 fr8_2 fr8_3 fr8_4 pq8 HC8
                  have na9_0 : wz9.heap.size ≠ w.heap.size := by have h1 : w.heap.size < wz9.heap.size := World.block_lt_of_cell? _ _ y9_0; omega
                  have na9_1 : wz9.heap.size ≠ w.heap.size + 1 := by have h1 : w.heap.size + 1 < wz9.heap.size := World.block_lt_of_cell? _ _ y9_1; omega
                  have na9_2 : wz9.heap.size ≠ bo7 := by have h1 : bo7 < wz9.heap.size := World.block_lt_of_cell? _ _ y9_5; omega
                  have na9_3 : wz9.heap.size ≠ w.heap.size + 1 + 1 := by have h1 : w.heap.size + 1 + 1 < wz9.heap.size := World.block_lt_of_cell? _ _ y9_9; omega
                  have na9_4 : wz9.heap.size ≠ w.heap.size + 1 + 1 + 1 + 1 + 1 := by have h1 : w.heap.size + 1 + 1 + 1 + 1 + 1 < wz9.heap.size := m5.lt; omega
                  have hal10 := (Chg.refl wz9 []).alloc (.cells #[.int .i32 ((rateW q0 q1 q2 q3 G0 G1 G2).a).v, .int .i32 ((rateW q0 q1 q2 q3 G0 G1 G2).b).v, .int .i32 ((rateW q0 q1 q2 q3 G0 G1 G2).c).v, .int .i32 ((rateW q0 q1 q2 q3 G0 G1 G2).d).v] 27)
                  have mn10 := Blk.new wz9 27 [.int .i32 ((rateW q0 q1 q2 q3 G0 G1 G2).a).v, .int .i32 ((rateW q0 q1 q2 q3 G0 G1 G2).b).v, .int .i32 ((rateW q0 q1 q2 q3 G0 G1 G2).c).v, .int .i32 ((rateW q0 q1 q2 q3 G0 G1 G2).d).v]
                  have fn10 := far_of pl9 hal10 wz9.heap.size (Nat.le_refl _)
                  replace m1 := m1.chg hal10 (by simp)
                  replace m5 := m5.chg hal10 (by simp)
                  have y10_0 := hal10.cell y9_0 (by simp)
                  have y10_1 := hal10.cell y9_1 (by simp)
                  have y10_2 := hal10.cell y9_2 (by simp)
                  have y10_3 := hal10.cell y9_3 (by simp)
                  have y10_4 := hal10.cell y9_4 (by simp)
                  have y10_5 := hal10.cell y9_5 (by simp)
                  have y10_6 := hal10.cell y9_6 (by simp)
                  have y10_7 := hal10.cell y9_7 (by simp)
                  have y10_8 := hal10.cell y9_8 (by simp)
                  have y10_9 := hal10.cell y9_9 (by simp)
                  have y10_10 := hal10.cell y9_10 (by simp)
                  have y10_11 := hal10.cell y9_11 (by simp)
                  have hd10 := dof_chg pl9 hal10 (by simp)
                  have fr10_0 := fr9_0
                  rw [← hd10] at fr10_0
                  have fr10_1 := fr9_1
                  rw [← hd10] at fr10_1
                  have fr10_2 := fr9_2
                  rw [← hd10] at fr10_2
                  have fr10_3 := fr9_3
                  rw [← hd10] at fr10_3
                  have fr10_4 := fr9_4
                  rw [← hd10] at fr10_4
                  have HC10 := hide (HC9.out.trans (Turn.call pl9 hal10))
                  have pl10 := pl9.chg hal10 (by simp)
                  have yn10_0 : (wz9.alloc (.cells #[.int .i32 ((rateW q0 q1 q2 q3 G0 G1 G2).a).v, .int .i32 ((rateW q0 q1 q2 q3 G0 G1 G2).b).v, .int .i32 ((rateW q0 q1 q2 q3 G0 G1 G2).c).v, .int .i32 ((rateW q0 q1 q2 q3 G0 G1 G2).d).v] 27)).cell? ⟨wz9.heap.size, 0, none⟩ = some (.int .i32 ((rateW q0 q1 q2 q3 G0 G1 G2).a).v) := mn10.cell' (i := 0) rfl
                  have yn10_1 : (wz9.alloc (.cells #[.int .i32 ((rateW q0 q1 q2 q3 G0 G1 G2).a).v, .int .i32 ((rateW q0 q1 q2 q3 G0 G1 G2).b).v, .int .i32 ((rateW q0 q1 q2 q3 G0 G1 G2).c).v, .int .i32 ((rateW q0 q1 q2 q3 G0 G1 G2).d).v] 27)).cell? ⟨wz9.heap.size, 1, none⟩ = some (.int .i32 ((rateW q0 q1 q2 q3 G0 G1 G2).b).v) := mn10.cell' (i := 1) rfl
                  have yn10_2 : (wz9.alloc (.cells #[.int .i32 ((rateW q0 q1 q2 q3 G0 G1 G2).a).v, .int .i32 ((rateW q0 q1 q2 q3 G0 G1 G2).b).v, .int .i32 ((rateW q0 q1 q2 q3 G0 G1 G2).c).v, .int .i32 ((rateW q0 q1 q2 q3 G0 G1 G2).d).v] 27)).cell? ⟨wz9.heap.size, 2, none⟩ = some (.int .i32 ((rateW q0 q1 q2 q3 G0 G1 G2).c).v) := mn10.cell' (i := 2) rfl
                  have yn10_3 : (wz9.alloc (.cells #[.int .i32 ((rateW q0 q1 q2 q3 G0 G1 G2).a).v, .int .i32 ((rateW q0 q1 q2 q3 G0 G1 G2).b).v, .int .i32 ((rateW q0 q1 q2 q3 G0 G1 G2).c).v, .int .i32 ((rateW q0 q1 q2 q3 G0 G1 G2).d).v] 27)).cell? ⟨wz9.heap.size, 3, none⟩ = some (.int .i32 ((rateW q0 q1 q2 q3 G0 G1 G2).d).v) := mn10.cell' (i := 3) rfl
                  clear hal10 hd10 mn10 y9_0 y9_1 y9_2 y9_3 y9_4 y9_5 y9_6 y9_7 y9_8 y9_9 y9_10 y9_11 fr9_0 fr9_1 fr9_2 fr9_3 fr9_4 pl9 HC9
                  go_wp2_with fail
                  generalize (wz9.alloc (.cells #[.int .i32 ((rateW q0 q1 q2 q3 G0 G1 G2).a).v, .int .i32 ((rateW q0 q1 q2 q3 G0 G1 G2).b).v, .int .i32 ((rateW q0 q1 q2 q3 G0 G1 G2).c).v, .int .i32 ((rateW q0 q1 q2 q3 G0 G1 G2).d).v] 27)) = wz10 at *
                  generalize wz9.heap.size = bo10 at *
                  obtain ⟨R0, hR0⟩ : ∃ x, x = (rateW q0 q1 q2 q3 G0 G1 G2).a := ⟨_, rfl⟩
                  replace yn10_0 : wz10.cell? ⟨bo10, 0, none⟩ = some (.int .i32 R0.v) := by rw [hR0]; exact yn10_0
                  have HR0 := hide hR0
                  clear hR0
                  obtain ⟨R1, hR1⟩ : ∃ x, x = (rateW q0 q1 q2 q3 G0 G1 G2).b := ⟨_, rfl⟩
                  replace yn10_1 : wz10.cell? ⟨bo10, 1, none⟩ = some (.int .i32 R1.v) := by rw [hR1]; exact yn10_1
                  have HR1 := hide hR1
                  clear hR1
                  obtain ⟨R2, hR2⟩ : ∃ x, x = (rateW q0 q1 q2 q3 G0 G1 G2).c := ⟨_, rfl⟩
                  replace yn10_2 : wz10.cell? ⟨bo10, 2, none⟩ = some (.int .i32 R2.v) := by rw [hR2]; exact yn10_2
                  have HR2 := hide hR2
                  clear hR2
                  obtain ⟨R3, hR3⟩ : ∃ x, x = (rateW q0 q1 q2 q3 G0 G1 G2).d := ⟨_, rfl⟩
                  replace yn10_3 : wz10.cell? ⟨bo10, 3, none⟩ = some (.int .i32 R3.v) := by rw [hR3]; exact yn10_3
                  have HR3 := hide hR3
                  clear hR3
                  clear y10_9 y10_10 y10_11 fr10_2
                  obtain ⟨LN11, hLN11⟩ : ∃ l : List Value, l = [.int .i32 (addsW (q0) (clipW (subsW (R0) (andW (downW (E0) (8)) (sensedA a0 a1 a2))))).v, .int .i32 (addsW (q1) (clipW (subsW (R1) (andW (downW (E1) (8)) (sensedA a0 a1 a2))))).v, .int .i32 (addsW (q2) (clipW (subsW (R2) (andW (downW (E2) (8)) (sensedA a0 a1 a2))))).v, .int .i32 (addsW (q3) (clipW (subsW (R3) (andW (downW (E3) (8)) (sensedA a0 a1 a2))))).v] := ⟨_, rfl⟩
                  obtain ⟨LO11, hLO11⟩ : ∃ l : List Value, l = [.int .i32 (q0).v, .int .i32 (q1).v, .int .i32 (q2).v, .int .i32 (q3).v] := ⟨_, rfl⟩
                  have HLN11 := hide hLN11
                  have HLO11 := hide hLO11
                  clear hLN11 hLO11
                  have HB11 : Hid (Blk wz10 (w.heap.size + 1) 27 (LN11.take 0 ++ LO11.drop 0)) := hide (by rw [HLN11.out, HLO11.out]; exact m1)
                  have HQ11 : Hid (Chg wz10 wz10 [w.heap.size + 1]) := hide (Chg.refl _ _)
                  go_loopw [79] (fun i wr => ∃ k : Nat, k ≤ 4 ∧ i = .int .i64 k ∧ Hid (Chg wz10 wr [w.heap.size + 1]) ∧ Hid (Blk wr (w.heap.size + 1) 27 (LN11.take k ++ LO11.drop k))) (fun i _ => 4 - (intOf i).toNat)
                  case atStart => exact ⟨0, Nat.zero_le _, rfl, HQ11, HB11⟩
                  case round =>
                    obtain ⟨k, hk, rfl, HQ, HB⟩ := hrel
                    have yr0 := HQ.out.cell y10_0 (by simp; try omega)
                    have yr1 := HQ.out.cell y10_5 (by simp; try omega)
                    have yr2 := HQ.out.cell y10_6 (by simp; try omega)
                    have yr3 := HQ.out.cell y10_7 (by simp; try omega)
                    have yr4 := HQ.out.cell y10_8 (by simp; try omega)
                    have yr5 := HQ.out.cell yn10_0 (by simp; try omega)
                    have yr6 := HQ.out.cell yn10_1 (by simp; try omega)
                    have yr7 := HQ.out.cell yn10_2 (by simp; try omega)
                    have yr8 := HQ.out.cell yn10_3 (by simp; try omega)
                    rcases (by omega : k = 0 ∨ k = 1 ∨ k = 2 ∨ k = 3 ∨ k = 4) with rfl | rfl | rfl | rfl | rfl
                    · have mo : Blk wr (w.heap.size + 1) 27 [.int .i32 (q0).v, .int .i32 (q1).v, .int .i32 (q2).v, .int .i32 (q3).v] := by have h := HB.out; rw [HLN11.out, HLO11.out] at h; exact h
                      clear HB HB11 HQ11  y10_0 y10_1 y10_2 y10_3 y10_4 y10_5 y10_6 y10_7 y10_8 yn10_0 yn10_1 yn10_2 yn10_3 fr10_0 fr10_1 fr10_3 fr10_4 fn10  pl10 HC10  m1 m5
                      go_wp2_with fail
                      obtain ⟨CL, hCL⟩ : ∃ l : List (Addr × Value), l = [(⟨w.heap.size, 0, none⟩, .iface 74 (.pointer (some ⟨b, 0, none⟩))), (⟨bo7, 0, none⟩, .int .i32 (E0).v), (⟨bo7, 1, none⟩, .int .i32 (E1).v), (⟨bo7, 2, none⟩, .int .i32 (E2).v), (⟨bo7, 3, none⟩, .int .i32 (E3).v), (⟨bo10, 0, none⟩, .int .i32 (R0).v), (⟨bo10, 1, none⟩, .int .i32 (R1).v), (⟨bo10, 2, none⟩, .int .i32 (R2).v), (⟨bo10, 3, none⟩, .int .i32 (R3).v)] := ⟨_, rfl⟩
                      have HS0 : Sd wr [w.heap.size + 1] CL wr.drew := ⟨(Chg.refl wr _).drew, by rw [hCL]; simp only [List.forall_mem_cons]; exact ⟨yr0, yr1, yr2, yr3, yr4, yr5, yr6, yr7, yr8, by simp⟩⟩
                      have hU0 : ∀ p ∈ CL, p.1.block ∈ ([bo7, bo10, w.heap.size] : List Nat) := by rw [hCL]; simp only [List.forall_mem_cons]; exact ⟨by simp, by simp, by simp, by simp, by simp, by simp, by simp, by simp, by simp, by simp⟩
                      have hlt0 : ∀ u ∈ ([bo7, bo10, w.heap.size] : List Nat), u < wr.heap.size := by simp only [List.forall_mem_cons]; exact ⟨World.block_lt_of_cell? _ _ yr1, World.block_lt_of_cell? _ _ yr5, World.block_lt_of_cell? _ _ yr0, by simp⟩
                      refine Reg.wp_region (Reg.of 23 _ _ [.int .i64 0, .agg #[.iface 74 (.pointer (some ⟨b, 0, none⟩))], .int .i64 0, .pointer (some ⟨w.heap.size + 1, 0, none⟩), .int .i32 (q0).v, .agg #[.iface 74 (.pointer (some ⟨b, 0, none⟩))], .agg #[.iface 74 (.pointer (some ⟨b, 0, none⟩))], .int .i64 0, .pointer (some ⟨bo10, 0, none⟩), .int .i32 (R0).v, .agg #[.iface 74 (.pointer (some ⟨b, 0, none⟩))], .agg #[.iface 74 (.pointer (some ⟨b, 0, none⟩))], .int .i64 0, .pointer (some ⟨bo7, 0, none⟩), .int .i32 (E0).v, .int .i32 (downW (E0) (8)).v, .int .i32 (sensedA a0 a1 a2).v, .int .i32 (andW (downW (E0) (8)) (sensedA a0 a1 a2)).v, .int .i32 (subsW (R0) (andW (downW (E0) (8)) (sensedA a0 a1 a2))).v, .int .i32 (clipW (subsW (R0) (andW (downW (E0) (8)) (sensedA a0 a1 a2)))).v, .int .i32 (addsW (q0) (clipW (subsW (R0) (andW (downW (E0) (8)) (sensedA a0 a1 a2))))).v, .pointer (some ⟨w.heap.size + 1, 0, none⟩), undef] [fun _ => undef, fun _ => undef, fun _ => undef, fun _ => undef, fun _ => undef, fun _ => undef, fun _ => undef, fun _ => undef, fun _ => undef, fun _ => undef, fun _ => undef, fun _ => undef, fun _ => undef, fun _ => undef, fun _ => undef, fun _ => undef, fun _ => undef, fun _ => undef, fun _ => undef, fun _ => undef, fun _ => undef, fun _ => undef, fun _ => undef] [.val, .val, .val, .val, .val, .val, .val, .val, .val, .val, .val, .val, .val, .val, .val, .val, .val, .val, .val, .val, .val, .val, .put 23 [.int .i32 (addsW (q0) (clipW (subsW (R0) (andW (downW (E0) (8)) (sensedA a0 a1 a2))))).v, .int .i32 (q1).v, .int .i32 (q2).v, .int .i32 (q3).v]] [(27, [.int .i32 (q0).v, .int .i32 (q1).v, .int .i32 (q2).v, .int .i32 (q3).v])] [w.heap.size + 1] [] (fun _ => Sd wr [w.heap.size + 1] CL) (Fd wr [w.heap.size + 1] [bo7, bo10, w.heap.size])) (Reg.good_of _ 110 (by kernel_rfl) (by kernel_rfl)) (stands_d _ wr [w.heap.size + 1] [bo7, bo10, w.heap.size] CL rfl rfl rfl hU0 hlt0) (by kernel_rfl) HS0 (hold_of (by kernel_rfl) ?holdwz11101) (ne_of (by kernel_rfl) ?hnewz11101) (Reg.steps_of _ rfl ⟨?_, ?_, ?_, ?_, ?_, ?_, ?_, ?_, ?_, ?_, ?_, ?_, ?_, ?_, ?_, ?_, ?_, ?_, ?_, ?_, ?_, ?_, ?_, trivial⟩) ?hendwz11101
                      case holdwz11101 =>
                        intro k T c hk
                        cases k with
                        | zero => simp only [List.getElem?_cons_zero, Option.some.injEq, Prod.mk.injEq] at hk; obtain ⟨rfl, rfl⟩ := hk; exact ⟨mo, ⟨by simp; try omega, .inl (by simp)⟩⟩
                        | succ k =>
                          simp at hk
                      case hnewz11101 => intro i j hi hj hne; simp at hi hj; omega
                      case hendwz11101 =>
                        intro wz11101 γ hSz hBz hnez hOz
                        replace hSz : Sd wr [w.heap.size + 1] CL wz11101 := hSz
                        have ob0 : Blk wz11101 (w.heap.size + 1) 27 [.int .i32 (addsW (q0) (clipW (subsW (R0) (andW (downW (E0) (8)) (sensedA a0 a1 a2))))).v, .int .i32 (q1).v, .int .i32 (q2).v, .int .i32 (q3).v] := by have h := (hBz 23 27 [.int .i32 (q0).v, .int .i32 (q1).v, .int .i32 (q2).v, .int .i32 (q3).v] (by kernel_rfl) [.int .i32 (addsW (q0) (clipW (subsW (R0) (andW (downW (E0) (8)) (sensedA a0 a1 a2))))).v, .int .i32 (q1).v, .int .i32 (q2).v, .int .i32 (q3).v] (by kernel_rfl)).1; rw [hOz 23 (Nat.le_trans (Nat.le_of_eq (by kernel_rfl : _ = 23)) (by decide : 23 ≤ 23))] at h; exact h
                        refine end_of [(82, .int .i64 0), (83, .agg #[.iface 74 (.pointer (some ⟨b, 0, none⟩))]), (84, .int .i64 0), (85, .pointer (some ⟨w.heap.size + 1, 0, none⟩)), (86, .int .i32 (q0).v), (87, .agg #[.iface 74 (.pointer (some ⟨b, 0, none⟩))]), (88, .agg #[.iface 74 (.pointer (some ⟨b, 0, none⟩))]), (89, .int .i64 0), (90, .pointer (some ⟨bo10, 0, none⟩)), (91, .int .i32 (R0).v), (92, .agg #[.iface 74 (.pointer (some ⟨b, 0, none⟩))]), (93, .agg #[.iface 74 (.pointer (some ⟨b, 0, none⟩))]), (94, .int .i64 0), (95, .pointer (some ⟨bo7, 0, none⟩)), (96, .int .i32 (E0).v), (97, .int .i32 (downW (E0) (8)).v), (98, .int .i32 (sensedA a0 a1 a2).v), (99, .int .i32 (andW (downW (E0) (8)) (sensedA a0 a1 a2)).v), (100, .int .i32 (subsW (R0) (andW (downW (E0) (8)) (sensedA a0 a1 a2))).v), (101, .int .i32 (clipW (subsW (R0) (andW (downW (E0) (8)) (sensedA a0 a1 a2)))).v), (102, .int .i32 (addsW (q0) (clipW (subsW (R0) (andW (downW (E0) (8)) (sensedA a0 a1 a2))))).v), (103, .pointer (some ⟨w.heap.size + 1, 0, none⟩))] (by kernel_rfl) ?_
                        clear hBz hnez hOz HS0 hU0
                        simp only [Reg.of, List.foldl_cons, List.foldl_nil, List.setIfInBounds_toArray, List.set_cons_zero, List.set_cons_succ]
                        have HC11101 := hide (HQ.out.trans hSz.chg (D := [w.heap.size + 1]) (by simp))
                        have y11101_0 : wz11101.cell? ⟨w.heap.size, 0, none⟩ = some (.iface 74 (.pointer (some ⟨b, 0, none⟩))) := hSz.at_ 0 _ _ (by rw [hCL]; rfl)
                        have y11101_1 : wz11101.cell? ⟨bo7, 0, none⟩ = some (.int .i32 (E0).v) := hSz.at_ 1 _ _ (by rw [hCL]; rfl)
                        have y11101_2 : wz11101.cell? ⟨bo7, 1, none⟩ = some (.int .i32 (E1).v) := hSz.at_ 2 _ _ (by rw [hCL]; rfl)
                        have y11101_3 : wz11101.cell? ⟨bo7, 2, none⟩ = some (.int .i32 (E2).v) := hSz.at_ 3 _ _ (by rw [hCL]; rfl)
                        have y11101_4 : wz11101.cell? ⟨bo7, 3, none⟩ = some (.int .i32 (E3).v) := hSz.at_ 4 _ _ (by rw [hCL]; rfl)
                        have y11101_5 : wz11101.cell? ⟨bo10, 0, none⟩ = some (.int .i32 (R0).v) := hSz.at_ 5 _ _ (by rw [hCL]; rfl)
                        have y11101_6 : wz11101.cell? ⟨bo10, 1, none⟩ = some (.int .i32 (R1).v) := hSz.at_ 6 _ _ (by rw [hCL]; rfl)
                        have y11101_7 : wz11101.cell? ⟨bo10, 2, none⟩ = some (.int .i32 (R2).v) := hSz.at_ 7 _ _ (by rw [hCL]; rfl)
                        have y11101_8 : wz11101.cell? ⟨bo10, 3, none⟩ = some (.int .i32 (R3).v) := hSz.at_ 8 _ _ (by rw [hCL]; rfl)
                        clear hSz hCL hlt0 CL yr0 yr1 yr2 yr3 yr4 yr5 yr6 yr7 yr8 HQ mo
                        have mo11101_0 := ob0
                        clear ob0
                        go_wp2
                        go_roundw
                        case rel => exact ⟨1, by omega, by go_num, HC11101, hide (by rw [HLN11.out, HLO11.out]; exact mo11101_0)⟩
                        case measure => simp [intOf]
                      · intro a wu γ nph K hp hK
                        obtain ⟨e21a, e21b⟩ := hp.old_ 21 (.int .i64 0)
                        have hk := hK.pure (.int .i64 0) hp.S
                        clear hp hK
                        go_simp
                        exact hk
                      · intro a wu γ nph K hp hK
                        obtain ⟨e5a, e5b⟩ := hp.old_ 5 (.pointer (some ⟨w.heap.size, 0, none⟩))
                        have hS : Sd wr [w.heap.size + 1] CL wu := hp.S
                        have c0 := hS.at_ 0 ⟨w.heap.size, 0, none⟩ (.iface 74 (.pointer (some ⟨b, 0, none⟩))) (by rw [hCL]; rfl)
                        have hk := hK.pure (.agg #[.iface 74 (.pointer (some ⟨b, 0, none⟩))]) hp.S
                        clear hp hK hS
                        go_simp
                        exact hk
                      · intro a wu γ nph K hp hK
                        obtain ⟨e21a, e21b⟩ := hp.old_ 21 (.int .i64 0)
                        have hk := hK.pure (.int .i64 0) hp.S
                        clear hp hK
                        go_simp
                        exact hk
                      · intro a wu γ nph K hp hK
                        obtain ⟨e6a, e6b⟩ := hp.old_ 6 (.pointer (some ⟨w.heap.size + 1, 0, none⟩))
                        obtain ⟨e84a, e84b⟩ := hp.dep_ 84 2 (.int .i64 0)
                        have hk := hK.pure (.pointer (some ⟨w.heap.size + 1, 0, none⟩)) hp.S
                        clear hp hK
                        go_simp
                        exact hk
                      · intro a wu γ nph K hp hK
                        obtain ⟨e85a, e85b⟩ := hp.dep_ 85 3 (.pointer (some ⟨w.heap.size + 1, 0, none⟩))
                        have hbo0_0 := (hp.blk_ 23 (T := 27) (c := [.int .i32 (q0).v, .int .i32 (q1).v, .int .i32 (q2).v, .int .i32 (q3).v])).1
                        rw [hp.old 23 (Nat.le_trans (Nat.le_of_eq (by kernel_rfl : _ = 23)) (by decide : 23 ≤ 23))] at hbo0_0
                        have co0_0 : wu.cell? ⟨w.heap.size + 1, 0, none⟩ = some (.int .i32 (q0).v) := hbo0_0.cell' (i := 0) rfl
                        have hk := hK.pure (.int .i32 (q0).v) hp.S
                        clear hp hK
                        go_simp
                        exact hk
                      · intro a wu γ nph K hp hK
                        obtain ⟨e5a, e5b⟩ := hp.old_ 5 (.pointer (some ⟨w.heap.size, 0, none⟩))
                        have hS : Sd wr [w.heap.size + 1] CL wu := hp.S
                        have c0 := hS.at_ 0 ⟨w.heap.size, 0, none⟩ (.iface 74 (.pointer (some ⟨b, 0, none⟩))) (by rw [hCL]; rfl)
                        have hk := hK.pure (.agg #[.iface 74 (.pointer (some ⟨b, 0, none⟩))]) hp.S
                        clear hp hK hS
                        go_simp
                        exact hk
                      · intro a wu γ nph K hp hK
                        obtain ⟨e5a, e5b⟩ := hp.old_ 5 (.pointer (some ⟨w.heap.size, 0, none⟩))
                        have hS : Sd wr [w.heap.size + 1] CL wu := hp.S
                        have c0 := hS.at_ 0 ⟨w.heap.size, 0, none⟩ (.iface 74 (.pointer (some ⟨b, 0, none⟩))) (by rw [hCL]; rfl)
                        have hk := hK.pure (.agg #[.iface 74 (.pointer (some ⟨b, 0, none⟩))]) hp.S
                        clear hp hK hS
                        go_simp
                        exact hk
                      · intro a wu γ nph K hp hK
                        obtain ⟨e21a, e21b⟩ := hp.old_ 21 (.int .i64 0)
                        have hk := hK.pure (.int .i64 0) hp.S
                        clear hp hK
                        go_simp
                        exact hk
                      · intro a wu γ nph K hp hK
                        obtain ⟨e20a, e20b⟩ := hp.old_ 20 (.pointer (some ⟨bo10, 0, none⟩))
                        obtain ⟨e89a, e89b⟩ := hp.dep_ 89 7 (.int .i64 0)
                        have hk := hK.pure (.pointer (some ⟨bo10, 0, none⟩)) hp.S
                        clear hp hK
                        go_simp
                        exact hk
                      · intro a wu γ nph K hp hK
                        obtain ⟨e90a, e90b⟩ := hp.dep_ 90 8 (.pointer (some ⟨bo10, 0, none⟩))
                        have hS : Sd wr [w.heap.size + 1] CL wu := hp.S
                        have c5 := hS.at_ 5 ⟨bo10, 0, none⟩ (.int .i32 (R0).v) (by rw [hCL]; rfl)
                        have hk := hK.pure (.int .i32 (R0).v) hp.S
                        clear hp hK hS
                        go_simp
                        exact hk
                      · intro a wu γ nph K hp hK
                        obtain ⟨e5a, e5b⟩ := hp.old_ 5 (.pointer (some ⟨w.heap.size, 0, none⟩))
                        have hS : Sd wr [w.heap.size + 1] CL wu := hp.S
                        have c0 := hS.at_ 0 ⟨w.heap.size, 0, none⟩ (.iface 74 (.pointer (some ⟨b, 0, none⟩))) (by rw [hCL]; rfl)
                        have hk := hK.pure (.agg #[.iface 74 (.pointer (some ⟨b, 0, none⟩))]) hp.S
                        clear hp hK hS
                        go_simp
                        exact hk
                      · intro a wu γ nph K hp hK
                        obtain ⟨e5a, e5b⟩ := hp.old_ 5 (.pointer (some ⟨w.heap.size, 0, none⟩))
                        have hS : Sd wr [w.heap.size + 1] CL wu := hp.S
                        have c0 := hS.at_ 0 ⟨w.heap.size, 0, none⟩ (.iface 74 (.pointer (some ⟨b, 0, none⟩))) (by rw [hCL]; rfl)
                        have hk := hK.pure (.agg #[.iface 74 (.pointer (some ⟨b, 0, none⟩))]) hp.S
                        clear hp hK hS
                        go_simp
                        exact hk
                      · intro a wu γ nph K hp hK
                        obtain ⟨e21a, e21b⟩ := hp.old_ 21 (.int .i64 0)
                        have hk := hK.pure (.int .i64 0) hp.S
                        clear hp hK
                        go_simp
                        exact hk
                      · intro a wu γ nph K hp hK
                        obtain ⟨e18a, e18b⟩ := hp.old_ 18 (.pointer (some ⟨bo7, 0, none⟩))
                        obtain ⟨e94a, e94b⟩ := hp.dep_ 94 12 (.int .i64 0)
                        have hk := hK.pure (.pointer (some ⟨bo7, 0, none⟩)) hp.S
                        clear hp hK
                        go_simp
                        exact hk
                      · intro a wu γ nph K hp hK
                        obtain ⟨e95a, e95b⟩ := hp.dep_ 95 13 (.pointer (some ⟨bo7, 0, none⟩))
                        have hS : Sd wr [w.heap.size + 1] CL wu := hp.S
                        have c1 := hS.at_ 1 ⟨bo7, 0, none⟩ (.int .i32 (E0).v) (by rw [hCL]; rfl)
                        have hk := hK.pure (.int .i32 (E0).v) hp.S
                        clear hp hK hS
                        go_simp
                        exact hk
                      · intro a wu γ nph K hp hK
                        obtain ⟨e93a, e93b⟩ := hp.dep_ 93 11 (.agg #[.iface 74 (.pointer (some ⟨b, 0, none⟩))])
                        obtain ⟨e96a, e96b⟩ := hp.dep_ 96 14 (.int .i32 (E0).v)
                        have hS : Sd wr [w.heap.size + 1] CL wu := hp.S
                        have hk := hK.call (.int .i32 (downW (E0) (8)).v)
                        clear hp hK
                        go_simp
                        refine (w_down _ _ _ _ (by decide)).mono ?_
                        rintro e w7 ⟨rfl, hcX⟩
                        exact hk _ (hS.call hcX) (Reg.keep_call _ rfl hcX)
                      · intro a wu γ nph K hp hK
                        obtain ⟨e13a, e13b⟩ := hp.old_ 13 (.int .i32 (sensedA a0 a1 a2).v)
                        have hk := hK.pure (.int .i32 (sensedA a0 a1 a2).v) hp.S
                        clear hp hK
                        go_simp
                        exact hk
                      · intro a wu γ nph K hp hK
                        obtain ⟨e92a, e92b⟩ := hp.dep_ 92 10 (.agg #[.iface 74 (.pointer (some ⟨b, 0, none⟩))])
                        obtain ⟨e97a, e97b⟩ := hp.dep_ 97 15 (.int .i32 (downW (E0) (8)).v)
                        obtain ⟨e98a, e98b⟩ := hp.dep_ 98 16 (.int .i32 (sensedA a0 a1 a2).v)
                        have hS : Sd wr [w.heap.size + 1] CL wu := hp.S
                        have hk := hK.call (.int .i32 (andW (downW (E0) (8)) (sensedA a0 a1 a2)).v)
                        clear hp hK
                        go_simp
                        refine (w_and _ _ _ _).mono ?_
                        rintro e w7 ⟨rfl, hcX⟩
                        exact hk _ (hS.call hcX) (Reg.keep_call _ rfl hcX)
                      · intro a wu γ nph K hp hK
                        obtain ⟨e88a, e88b⟩ := hp.dep_ 88 6 (.agg #[.iface 74 (.pointer (some ⟨b, 0, none⟩))])
                        obtain ⟨e91a, e91b⟩ := hp.dep_ 91 9 (.int .i32 (R0).v)
                        obtain ⟨e99a, e99b⟩ := hp.dep_ 99 17 (.int .i32 (andW (downW (E0) (8)) (sensedA a0 a1 a2)).v)
                        have hS : Sd wr [w.heap.size + 1] CL wu := hp.S
                        have hk := hK.call (.int .i32 (subsW (R0) (andW (downW (E0) (8)) (sensedA a0 a1 a2))).v)
                        clear hp hK
                        go_simp
                        refine (w_subs _ _ _ _).mono ?_
                        rintro e w7 ⟨rfl, hcX⟩
                        exact hk _ (hS.call hcX) (Reg.keep_call _ rfl hcX)
                      · intro a wu γ nph K hp hK
                        obtain ⟨e87a, e87b⟩ := hp.dep_ 87 5 (.agg #[.iface 74 (.pointer (some ⟨b, 0, none⟩))])
                        obtain ⟨e100a, e100b⟩ := hp.dep_ 100 18 (.int .i32 (subsW (R0) (andW (downW (E0) (8)) (sensedA a0 a1 a2))).v)
                        have hS : Sd wr [w.heap.size + 1] CL wu := hp.S
                        have hk := hK.call (.int .i32 (clipW (subsW (R0) (andW (downW (E0) (8)) (sensedA a0 a1 a2)))).v)
                        clear hp hK
                        go_simp
                        refine (wclip_calls _ (subsW (R0) (andW (downW (E0) (8)) (sensedA a0 a1 a2))) _).mono ?_
                        rintro e w7 ⟨rfl, hcX⟩
                        exact hk _ (hS.call hcX) (Reg.keep_call _ rfl hcX)
                      · intro a wu γ nph K hp hK
                        obtain ⟨e83a, e83b⟩ := hp.dep_ 83 1 (.agg #[.iface 74 (.pointer (some ⟨b, 0, none⟩))])
                        obtain ⟨e86a, e86b⟩ := hp.dep_ 86 4 (.int .i32 (q0).v)
                        obtain ⟨e101a, e101b⟩ := hp.dep_ 101 19 (.int .i32 (clipW (subsW (R0) (andW (downW (E0) (8)) (sensedA a0 a1 a2)))).v)
                        have hS : Sd wr [w.heap.size + 1] CL wu := hp.S
                        have hk := hK.call (.int .i32 (addsW (q0) (clipW (subsW (R0) (andW (downW (E0) (8)) (sensedA a0 a1 a2))))).v)
                        clear hp hK
                        go_simp
                        refine (w_adds _ _ _ _).mono ?_
                        rintro e w7 ⟨rfl, hcX⟩
                        exact hk _ (hS.call hcX) (Reg.keep_call _ rfl hcX)
                      · intro a wu γ nph K hp hK
                        obtain ⟨e6a, e6b⟩ := hp.old_ 6 (.pointer (some ⟨w.heap.size + 1, 0, none⟩))
                        obtain ⟨e82a, e82b⟩ := hp.dep_ 82 0 (.int .i64 0)
                        have hk := hK.pure (.pointer (some ⟨w.heap.size + 1, 0, none⟩)) hp.S
                        clear hp hK
                        go_simp
                        exact hk
                      · intro a wu γ nph K hp hK
                        obtain ⟨e103a, e103b⟩ := hp.dep_ 103 21 (.pointer (some ⟨w.heap.size + 1, 0, none⟩))
                        obtain ⟨e102a, e102b⟩ := hp.dep_ 102 20 (.int .i32 (addsW (q0) (clipW (subsW (R0) (andW (downW (E0) (8)) (sensedA a0 a1 a2))))).v)
                        have hb := (hp.blk_ 23 (T := 27) (c := [.int .i32 (q0).v, .int .i32 (q1).v, .int .i32 (q2).v, .int .i32 (q3).v])).1
                        have hk := hK.put 23 27 [.int .i32 (q0).v, .int .i32 (q1).v, .int .i32 (q2).v, .int .i32 (q3).v] [.int .i32 (addsW (q0) (clipW (subsW (R0) (andW (downW (E0) (8)) (sensedA a0 a1 a2))))).v, .int .i32 (q1).v, .int .i32 (q2).v, .int .i32 (q3).v]
                        have hO : γ 23 = w.heap.size + 1 := hp.old 23 (Nat.le_trans (Nat.le_of_eq (by kernel_rfl : _ = 23)) (by decide : 23 ≤ 23))
                        rw [hO] at hb hk
                        have z0 := hb.cell' (i := 0) rfl
                        have f0 := hb.frozen 0
                        clear hp hK
                        clear hO
                        go_simp
                        exact hk _ (hb.set_ 0 _) ((Chg.refl wu _).setCell _ _ (.inl (by simp))) (by simp)
                    · have mo : Blk wr (w.heap.size + 1) 27 [.int .i32 (addsW (q0) (clipW (subsW (R0) (andW (downW (E0) (8)) (sensedA a0 a1 a2))))).v, .int .i32 (q1).v, .int .i32 (q2).v, .int .i32 (q3).v] := by have h := HB.out; rw [HLN11.out, HLO11.out] at h; exact h
                      clear HB HB11 HQ11  y10_0 y10_1 y10_2 y10_3 y10_4 y10_5 y10_6 y10_7 y10_8 yn10_0 yn10_1 yn10_2 yn10_3 fr10_0 fr10_1 fr10_3 fr10_4 fn10  pl10 HC10  m1 m5
                      go_wp2_with fail
                      obtain ⟨CL, hCL⟩ : ∃ l : List (Addr × Value), l = [(⟨w.heap.size, 0, none⟩, .iface 74 (.pointer (some ⟨b, 0, none⟩))), (⟨bo7, 0, none⟩, .int .i32 (E0).v), (⟨bo7, 1, none⟩, .int .i32 (E1).v), (⟨bo7, 2, none⟩, .int .i32 (E2).v), (⟨bo7, 3, none⟩, .int .i32 (E3).v), (⟨bo10, 0, none⟩, .int .i32 (R0).v), (⟨bo10, 1, none⟩, .int .i32 (R1).v), (⟨bo10, 2, none⟩, .int .i32 (R2).v), (⟨bo10, 3, none⟩, .int .i32 (R3).v)] := ⟨_, rfl⟩
                      have HS0 : Sd wr [w.heap.size + 1] CL wr.drew := ⟨(Chg.refl wr _).drew, by rw [hCL]; simp only [List.forall_mem_cons]; exact ⟨yr0, yr1, yr2, yr3, yr4, yr5, yr6, yr7, yr8, by simp⟩⟩
                      have hU0 : ∀ p ∈ CL, p.1.block ∈ ([bo7, bo10, w.heap.size] : List Nat) := by rw [hCL]; simp only [List.forall_mem_cons]; exact ⟨by simp, by simp, by simp, by simp, by simp, by simp, by simp, by simp, by simp, by simp⟩
                      have hlt0 : ∀ u ∈ ([bo7, bo10, w.heap.size] : List Nat), u < wr.heap.size := by simp only [List.forall_mem_cons]; exact ⟨World.block_lt_of_cell? _ _ yr1, World.block_lt_of_cell? _ _ yr5, World.block_lt_of_cell? _ _ yr0, by simp⟩
                      refine Reg.wp_region (Reg.of 23 _ _ [.int .i64 1, .agg #[.iface 74 (.pointer (some ⟨b, 0, none⟩))], .int .i64 1, .pointer (some ⟨w.heap.size + 1, 1, none⟩), .int .i32 (q1).v, .agg #[.iface 74 (.pointer (some ⟨b, 0, none⟩))], .agg #[.iface 74 (.pointer (some ⟨b, 0, none⟩))], .int .i64 1, .pointer (some ⟨bo10, 1, none⟩), .int .i32 (R1).v, .agg #[.iface 74 (.pointer (some ⟨b, 0, none⟩))], .agg #[.iface 74 (.pointer (some ⟨b, 0, none⟩))], .int .i64 1, .pointer (some ⟨bo7, 1, none⟩), .int .i32 (E1).v, .int .i32 (downW (E1) (8)).v, .int .i32 (sensedA a0 a1 a2).v, .int .i32 (andW (downW (E1) (8)) (sensedA a0 a1 a2)).v, .int .i32 (subsW (R1) (andW (downW (E1) (8)) (sensedA a0 a1 a2))).v, .int .i32 (clipW (subsW (R1) (andW (downW (E1) (8)) (sensedA a0 a1 a2)))).v, .int .i32 (addsW (q1) (clipW (subsW (R1) (andW (downW (E1) (8)) (sensedA a0 a1 a2))))).v, .pointer (some ⟨w.heap.size + 1, 1, none⟩), undef] [fun _ => undef, fun _ => undef, fun _ => undef, fun _ => undef, fun _ => undef, fun _ => undef, fun _ => undef, fun _ => undef, fun _ => undef, fun _ => undef, fun _ => undef, fun _ => undef, fun _ => undef, fun _ => undef, fun _ => undef, fun _ => undef, fun _ => undef, fun _ => undef, fun _ => undef, fun _ => undef, fun _ => undef, fun _ => undef, fun _ => undef] [.val, .val, .val, .val, .val, .val, .val, .val, .val, .val, .val, .val, .val, .val, .val, .val, .val, .val, .val, .val, .val, .val, .put 23 [.int .i32 (addsW (q0) (clipW (subsW (R0) (andW (downW (E0) (8)) (sensedA a0 a1 a2))))).v, .int .i32 (addsW (q1) (clipW (subsW (R1) (andW (downW (E1) (8)) (sensedA a0 a1 a2))))).v, .int .i32 (q2).v, .int .i32 (q3).v]] [(27, [.int .i32 (addsW (q0) (clipW (subsW (R0) (andW (downW (E0) (8)) (sensedA a0 a1 a2))))).v, .int .i32 (q1).v, .int .i32 (q2).v, .int .i32 (q3).v])] [w.heap.size + 1] [] (fun _ => Sd wr [w.heap.size + 1] CL) (Fd wr [w.heap.size + 1] [bo7, bo10, w.heap.size])) (Reg.good_of _ 110 (by kernel_rfl) (by kernel_rfl)) (stands_d _ wr [w.heap.size + 1] [bo7, bo10, w.heap.size] CL rfl rfl rfl hU0 hlt0) (by kernel_rfl) HS0 (hold_of (by kernel_rfl) ?holdwz11201) (ne_of (by kernel_rfl) ?hnewz11201) (Reg.steps_of _ rfl ⟨?_, ?_, ?_, ?_, ?_, ?_, ?_, ?_, ?_, ?_, ?_, ?_, ?_, ?_, ?_, ?_, ?_, ?_, ?_, ?_, ?_, ?_, ?_, trivial⟩) ?hendwz11201
                      case holdwz11201 =>
                        intro k T c hk
                        cases k with
                        | zero => simp only [List.getElem?_cons_zero, Option.some.injEq, Prod.mk.injEq] at hk; obtain ⟨rfl, rfl⟩ := hk; exact ⟨mo, ⟨by simp; try omega, .inl (by simp)⟩⟩
                        | succ k =>
                          simp at hk
                      case hnewz11201 => intro i j hi hj hne; simp at hi hj; omega
                      case hendwz11201 =>
                        intro wz11201 γ hSz hBz hnez hOz
                        replace hSz : Sd wr [w.heap.size + 1] CL wz11201 := hSz
                        have ob0 : Blk wz11201 (w.heap.size + 1) 27 [.int .i32 (addsW (q0) (clipW (subsW (R0) (andW (downW (E0) (8)) (sensedA a0 a1 a2))))).v, .int .i32 (addsW (q1) (clipW (subsW (R1) (andW (downW (E1) (8)) (sensedA a0 a1 a2))))).v, .int .i32 (q2).v, .int .i32 (q3).v] := by have h := (hBz 23 27 [.int .i32 (addsW (q0) (clipW (subsW (R0) (andW (downW (E0) (8)) (sensedA a0 a1 a2))))).v, .int .i32 (q1).v, .int .i32 (q2).v, .int .i32 (q3).v] (by kernel_rfl) [.int .i32 (addsW (q0) (clipW (subsW (R0) (andW (downW (E0) (8)) (sensedA a0 a1 a2))))).v, .int .i32 (addsW (q1) (clipW (subsW (R1) (andW (downW (E1) (8)) (sensedA a0 a1 a2))))).v, .int .i32 (q2).v, .int .i32 (q3).v] (by kernel_rfl)).1; rw [hOz 23 (Nat.le_trans (Nat.le_of_eq (by kernel_rfl : _ = 23)) (by decide : 23 ≤ 23))] at h; exact h
                        refine end_of [(82, .int .i64 1), (83, .agg #[.iface 74 (.pointer (some ⟨b, 0, none⟩))]), (84, .int .i64 1), (85, .pointer (some ⟨w.heap.size + 1, 1, none⟩)), (86, .int .i32 (q1).v), (87, .agg #[.iface 74 (.pointer (some ⟨b, 0, none⟩))]), (88, .agg #[.iface 74 (.pointer (some ⟨b, 0, none⟩))]), (89, .int .i64 1), (90, .pointer (some ⟨bo10, 1, none⟩)), (91, .int .i32 (R1).v), (92, .agg #[.iface 74 (.pointer (some ⟨b, 0, none⟩))]), (93, .agg #[.iface 74 (.pointer (some ⟨b, 0, none⟩))]), (94, .int .i64 1), (95, .pointer (some ⟨bo7, 1, none⟩)), (96, .int .i32 (E1).v), (97, .int .i32 (downW (E1) (8)).v), (98, .int .i32 (sensedA a0 a1 a2).v), (99, .int .i32 (andW (downW (E1) (8)) (sensedA a0 a1 a2)).v), (100, .int .i32 (subsW (R1) (andW (downW (E1) (8)) (sensedA a0 a1 a2))).v), (101, .int .i32 (clipW (subsW (R1) (andW (downW (E1) (8)) (sensedA a0 a1 a2)))).v), (102, .int .i32 (addsW (q1) (clipW (subsW (R1) (andW (downW (E1) (8)) (sensedA a0 a1 a2))))).v), (103, .pointer (some ⟨w.heap.size + 1, 1, none⟩))] (by kernel_rfl) ?_
                        clear hBz hnez hOz HS0 hU0
                        simp only [Reg.of, List.foldl_cons, List.foldl_nil, List.setIfInBounds_toArray, List.set_cons_zero, List.set_cons_succ]
                        have HC11201 := hide (HQ.out.trans hSz.chg (D := [w.heap.size + 1]) (by simp))
                        have y11201_0 : wz11201.cell? ⟨w.heap.size, 0, none⟩ = some (.iface 74 (.pointer (some ⟨b, 0, none⟩))) := hSz.at_ 0 _ _ (by rw [hCL]; rfl)
                        have y11201_1 : wz11201.cell? ⟨bo7, 0, none⟩ = some (.int .i32 (E0).v) := hSz.at_ 1 _ _ (by rw [hCL]; rfl)
                        have y11201_2 : wz11201.cell? ⟨bo7, 1, none⟩ = some (.int .i32 (E1).v) := hSz.at_ 2 _ _ (by rw [hCL]; rfl)
                        have y11201_3 : wz11201.cell? ⟨bo7, 2, none⟩ = some (.int .i32 (E2).v) := hSz.at_ 3 _ _ (by rw [hCL]; rfl)
                        have y11201_4 : wz11201.cell? ⟨bo7, 3, none⟩ = some (.int .i32 (E3).v) := hSz.at_ 4 _ _ (by rw [hCL]; rfl)
                        have y11201_5 : wz11201.cell? ⟨bo10, 0, none⟩ = some (.int .i32 (R0).v) := hSz.at_ 5 _ _ (by rw [hCL]; rfl)
                        have y11201_6 : wz11201.cell? ⟨bo10, 1, none⟩ = some (.int .i32 (R1).v) := hSz.at_ 6 _ _ (by rw [hCL]; rfl)
                        have y11201_7 : wz11201.cell? ⟨bo10, 2, none⟩ = some (.int .i32 (R2).v) := hSz.at_ 7 _ _ (by rw [hCL]; rfl)
                        have y11201_8 : wz11201.cell? ⟨bo10, 3, none⟩ = some (.int .i32 (R3).v) := hSz.at_ 8 _ _ (by rw [hCL]; rfl)
                        clear hSz hCL hlt0 CL yr0 yr1 yr2 yr3 yr4 yr5 yr6 yr7 yr8 HQ mo
                        have mo11201_0 := ob0
                        clear ob0
                        go_wp2
                        go_roundw
                        case rel => exact ⟨2, by omega, by go_num, HC11201, hide (by rw [HLN11.out, HLO11.out]; exact mo11201_0)⟩
                        case measure => simp [intOf]
                      · intro a wu γ nph K hp hK
                        obtain ⟨e21a, e21b⟩ := hp.old_ 21 (.int .i64 1)
                        have hk := hK.pure (.int .i64 1) hp.S
                        clear hp hK
                        go_simp
                        exact hk
                      · intro a wu γ nph K hp hK
                        obtain ⟨e5a, e5b⟩ := hp.old_ 5 (.pointer (some ⟨w.heap.size, 0, none⟩))
                        have hS : Sd wr [w.heap.size + 1] CL wu := hp.S
                        have c0 := hS.at_ 0 ⟨w.heap.size, 0, none⟩ (.iface 74 (.pointer (some ⟨b, 0, none⟩))) (by rw [hCL]; rfl)
                        have hk := hK.pure (.agg #[.iface 74 (.pointer (some ⟨b, 0, none⟩))]) hp.S
                        clear hp hK hS
                        go_simp
                        exact hk
                      · intro a wu γ nph K hp hK
                        obtain ⟨e21a, e21b⟩ := hp.old_ 21 (.int .i64 1)
                        have hk := hK.pure (.int .i64 1) hp.S
                        clear hp hK
                        go_simp
                        exact hk
                      · intro a wu γ nph K hp hK
                        obtain ⟨e6a, e6b⟩ := hp.old_ 6 (.pointer (some ⟨w.heap.size + 1, 0, none⟩))
                        obtain ⟨e84a, e84b⟩ := hp.dep_ 84 2 (.int .i64 1)
                        have hk := hK.pure (.pointer (some ⟨w.heap.size + 1, 1, none⟩)) hp.S
                        clear hp hK
                        go_simp
                        exact hk
                      · intro a wu γ nph K hp hK
                        obtain ⟨e85a, e85b⟩ := hp.dep_ 85 3 (.pointer (some ⟨w.heap.size + 1, 1, none⟩))
                        have hbo0_1 := (hp.blk_ 23 (T := 27) (c := [.int .i32 (addsW (q0) (clipW (subsW (R0) (andW (downW (E0) (8)) (sensedA a0 a1 a2))))).v, .int .i32 (q1).v, .int .i32 (q2).v, .int .i32 (q3).v])).1
                        rw [hp.old 23 (Nat.le_trans (Nat.le_of_eq (by kernel_rfl : _ = 23)) (by decide : 23 ≤ 23))] at hbo0_1
                        have co0_1 : wu.cell? ⟨w.heap.size + 1, 1, none⟩ = some (.int .i32 (q1).v) := hbo0_1.cell' (i := 1) rfl
                        have hk := hK.pure (.int .i32 (q1).v) hp.S
                        clear hp hK
                        go_simp
                        exact hk
                      · intro a wu γ nph K hp hK
                        obtain ⟨e5a, e5b⟩ := hp.old_ 5 (.pointer (some ⟨w.heap.size, 0, none⟩))
                        have hS : Sd wr [w.heap.size + 1] CL wu := hp.S
                        have c0 := hS.at_ 0 ⟨w.heap.size, 0, none⟩ (.iface 74 (.pointer (some ⟨b, 0, none⟩))) (by rw [hCL]; rfl)
                        have hk := hK.pure (.agg #[.iface 74 (.pointer (some ⟨b, 0, none⟩))]) hp.S
                        clear hp hK hS
                        go_simp
                        exact hk
                      · intro a wu γ nph K hp hK
                        obtain ⟨e5a, e5b⟩ := hp.old_ 5 (.pointer (some ⟨w.heap.size, 0, none⟩))
                        have hS : Sd wr [w.heap.size + 1] CL wu := hp.S
                        have c0 := hS.at_ 0 ⟨w.heap.size, 0, none⟩ (.iface 74 (.pointer (some ⟨b, 0, none⟩))) (by rw [hCL]; rfl)
                        have hk := hK.pure (.agg #[.iface 74 (.pointer (some ⟨b, 0, none⟩))]) hp.S
                        clear hp hK hS
                        go_simp
                        exact hk
                      · intro a wu γ nph K hp hK
                        obtain ⟨e21a, e21b⟩ := hp.old_ 21 (.int .i64 1)
                        have hk := hK.pure (.int .i64 1) hp.S
                        clear hp hK
                        go_simp
                        exact hk
                      · intro a wu γ nph K hp hK
                        obtain ⟨e20a, e20b⟩ := hp.old_ 20 (.pointer (some ⟨bo10, 0, none⟩))
                        obtain ⟨e89a, e89b⟩ := hp.dep_ 89 7 (.int .i64 1)
                        have hk := hK.pure (.pointer (some ⟨bo10, 1, none⟩)) hp.S
                        clear hp hK
                        go_simp
                        exact hk
                      · intro a wu γ nph K hp hK
                        obtain ⟨e90a, e90b⟩ := hp.dep_ 90 8 (.pointer (some ⟨bo10, 1, none⟩))
                        have hS : Sd wr [w.heap.size + 1] CL wu := hp.S
                        have c6 := hS.at_ 6 ⟨bo10, 1, none⟩ (.int .i32 (R1).v) (by rw [hCL]; rfl)
                        have hk := hK.pure (.int .i32 (R1).v) hp.S
                        clear hp hK hS
                        go_simp
                        exact hk
                      · intro a wu γ nph K hp hK
                        obtain ⟨e5a, e5b⟩ := hp.old_ 5 (.pointer (some ⟨w.heap.size, 0, none⟩))
                        have hS : Sd wr [w.heap.size + 1] CL wu := hp.S
                        have c0 := hS.at_ 0 ⟨w.heap.size, 0, none⟩ (.iface 74 (.pointer (some ⟨b, 0, none⟩))) (by rw [hCL]; rfl)
                        have hk := hK.pure (.agg #[.iface 74 (.pointer (some ⟨b, 0, none⟩))]) hp.S
                        clear hp hK hS
                        go_simp
                        exact hk
                      · intro a wu γ nph K hp hK
                        obtain ⟨e5a, e5b⟩ := hp.old_ 5 (.pointer (some ⟨w.heap.size, 0, none⟩))
                        have hS : Sd wr [w.heap.size + 1] CL wu := hp.S
                        have c0 := hS.at_ 0 ⟨w.heap.size, 0, none⟩ (.iface 74 (.pointer (some ⟨b, 0, none⟩))) (by rw [hCL]; rfl)
                        have hk := hK.pure (.agg #[.iface 74 (.pointer (some ⟨b, 0, none⟩))]) hp.S
                        clear hp hK hS
                        go_simp
                        exact hk
                      · intro a wu γ nph K hp hK
                        obtain ⟨e21a, e21b⟩ := hp.old_ 21 (.int .i64 1)
                        have hk := hK.pure (.int .i64 1) hp.S
                        clear hp hK
                        go_simp
                        exact hk
                      · intro a wu γ nph K hp hK
                        obtain ⟨e18a, e18b⟩ := hp.old_ 18 (.pointer (some ⟨bo7, 0, none⟩))
                        obtain ⟨e94a, e94b⟩ := hp.dep_ 94 12 (.int .i64 1)
                        have hk := hK.pure (.pointer (some ⟨bo7, 1, none⟩)) hp.S
                        clear hp hK
                        go_simp
                        exact hk
                      · intro a wu γ nph K hp hK
                        obtain ⟨e95a, e95b⟩ := hp.dep_ 95 13 (.pointer (some ⟨bo7, 1, none⟩))
                        have hS : Sd wr [w.heap.size + 1] CL wu := hp.S
                        have c2 := hS.at_ 2 ⟨bo7, 1, none⟩ (.int .i32 (E1).v) (by rw [hCL]; rfl)
                        have hk := hK.pure (.int .i32 (E1).v) hp.S
                        clear hp hK hS
                        go_simp
                        exact hk
                      · intro a wu γ nph K hp hK
                        obtain ⟨e93a, e93b⟩ := hp.dep_ 93 11 (.agg #[.iface 74 (.pointer (some ⟨b, 0, none⟩))])
                        obtain ⟨e96a, e96b⟩ := hp.dep_ 96 14 (.int .i32 (E1).v)
                        have hS : Sd wr [w.heap.size + 1] CL wu := hp.S
                        have hk := hK.call (.int .i32 (downW (E1) (8)).v)
                        clear hp hK
                        go_simp
                        refine (w_down _ _ _ _ (by decide)).mono ?_
                        rintro e w7 ⟨rfl, hcX⟩
                        exact hk _ (hS.call hcX) (Reg.keep_call _ rfl hcX)
                      · intro a wu γ nph K hp hK
                        obtain ⟨e13a, e13b⟩ := hp.old_ 13 (.int .i32 (sensedA a0 a1 a2).v)
                        have hk := hK.pure (.int .i32 (sensedA a0 a1 a2).v) hp.S
                        clear hp hK
                        go_simp
                        exact hk
                      · intro a wu γ nph K hp hK
                        obtain ⟨e92a, e92b⟩ := hp.dep_ 92 10 (.agg #[.iface 74 (.pointer (some ⟨b, 0, none⟩))])
                        obtain ⟨e97a, e97b⟩ := hp.dep_ 97 15 (.int .i32 (downW (E1) (8)).v)
                        obtain ⟨e98a, e98b⟩ := hp.dep_ 98 16 (.int .i32 (sensedA a0 a1 a2).v)
                        have hS : Sd wr [w.heap.size + 1] CL wu := hp.S
                        have hk := hK.call (.int .i32 (andW (downW (E1) (8)) (sensedA a0 a1 a2)).v)
                        clear hp hK
                        go_simp
                        refine (w_and _ _ _ _).mono ?_
                        rintro e w7 ⟨rfl, hcX⟩
                        exact hk _ (hS.call hcX) (Reg.keep_call _ rfl hcX)
                      · intro a wu γ nph K hp hK
                        obtain ⟨e88a, e88b⟩ := hp.dep_ 88 6 (.agg #[.iface 74 (.pointer (some ⟨b, 0, none⟩))])
                        obtain ⟨e91a, e91b⟩ := hp.dep_ 91 9 (.int .i32 (R1).v)
                        obtain ⟨e99a, e99b⟩ := hp.dep_ 99 17 (.int .i32 (andW (downW (E1) (8)) (sensedA a0 a1 a2)).v)
                        have hS : Sd wr [w.heap.size + 1] CL wu := hp.S
                        have hk := hK.call (.int .i32 (subsW (R1) (andW (downW (E1) (8)) (sensedA a0 a1 a2))).v)
                        clear hp hK
                        go_simp
                        refine (w_subs _ _ _ _).mono ?_
                        rintro e w7 ⟨rfl, hcX⟩
                        exact hk _ (hS.call hcX) (Reg.keep_call _ rfl hcX)
                      · intro a wu γ nph K hp hK
                        obtain ⟨e87a, e87b⟩ := hp.dep_ 87 5 (.agg #[.iface 74 (.pointer (some ⟨b, 0, none⟩))])
                        obtain ⟨e100a, e100b⟩ := hp.dep_ 100 18 (.int .i32 (subsW (R1) (andW (downW (E1) (8)) (sensedA a0 a1 a2))).v)
                        have hS : Sd wr [w.heap.size + 1] CL wu := hp.S
                        have hk := hK.call (.int .i32 (clipW (subsW (R1) (andW (downW (E1) (8)) (sensedA a0 a1 a2)))).v)
                        clear hp hK
                        go_simp
                        refine (wclip_calls _ (subsW (R1) (andW (downW (E1) (8)) (sensedA a0 a1 a2))) _).mono ?_
                        rintro e w7 ⟨rfl, hcX⟩
                        exact hk _ (hS.call hcX) (Reg.keep_call _ rfl hcX)
                      · intro a wu γ nph K hp hK
                        obtain ⟨e83a, e83b⟩ := hp.dep_ 83 1 (.agg #[.iface 74 (.pointer (some ⟨b, 0, none⟩))])
                        obtain ⟨e86a, e86b⟩ := hp.dep_ 86 4 (.int .i32 (q1).v)
                        obtain ⟨e101a, e101b⟩ := hp.dep_ 101 19 (.int .i32 (clipW (subsW (R1) (andW (downW (E1) (8)) (sensedA a0 a1 a2)))).v)
                        have hS : Sd wr [w.heap.size + 1] CL wu := hp.S
                        have hk := hK.call (.int .i32 (addsW (q1) (clipW (subsW (R1) (andW (downW (E1) (8)) (sensedA a0 a1 a2))))).v)
                        clear hp hK
                        go_simp
                        refine (w_adds _ _ _ _).mono ?_
                        rintro e w7 ⟨rfl, hcX⟩
                        exact hk _ (hS.call hcX) (Reg.keep_call _ rfl hcX)
                      · intro a wu γ nph K hp hK
                        obtain ⟨e6a, e6b⟩ := hp.old_ 6 (.pointer (some ⟨w.heap.size + 1, 0, none⟩))
                        obtain ⟨e82a, e82b⟩ := hp.dep_ 82 0 (.int .i64 1)
                        have hk := hK.pure (.pointer (some ⟨w.heap.size + 1, 1, none⟩)) hp.S
                        clear hp hK
                        go_simp
                        exact hk
                      · intro a wu γ nph K hp hK
                        obtain ⟨e103a, e103b⟩ := hp.dep_ 103 21 (.pointer (some ⟨w.heap.size + 1, 1, none⟩))
                        obtain ⟨e102a, e102b⟩ := hp.dep_ 102 20 (.int .i32 (addsW (q1) (clipW (subsW (R1) (andW (downW (E1) (8)) (sensedA a0 a1 a2))))).v)
                        have hb := (hp.blk_ 23 (T := 27) (c := [.int .i32 (addsW (q0) (clipW (subsW (R0) (andW (downW (E0) (8)) (sensedA a0 a1 a2))))).v, .int .i32 (q1).v, .int .i32 (q2).v, .int .i32 (q3).v])).1
                        have hk := hK.put 23 27 [.int .i32 (addsW (q0) (clipW (subsW (R0) (andW (downW (E0) (8)) (sensedA a0 a1 a2))))).v, .int .i32 (q1).v, .int .i32 (q2).v, .int .i32 (q3).v] [.int .i32 (addsW (q0) (clipW (subsW (R0) (andW (downW (E0) (8)) (sensedA a0 a1 a2))))).v, .int .i32 (addsW (q1) (clipW (subsW (R1) (andW (downW (E1) (8)) (sensedA a0 a1 a2))))).v, .int .i32 (q2).v, .int .i32 (q3).v]
                        have hO : γ 23 = w.heap.size + 1 := hp.old 23 (Nat.le_trans (Nat.le_of_eq (by kernel_rfl : _ = 23)) (by decide : 23 ≤ 23))
                        rw [hO] at hb hk
                        have z1 := hb.cell' (i := 1) rfl
                        have f1 := hb.frozen 1
                        clear hp hK
                        clear hO
                        go_simp
                        exact hk _ (hb.set_ 1 _) ((Chg.refl wu _).setCell _ _ (.inl (by simp))) (by simp)
                    · have mo : Blk wr (w.heap.size + 1) 27 [.int .i32 (addsW (q0) (clipW (subsW (R0) (andW (downW (E0) (8)) (sensedA a0 a1 a2))))).v, .int .i32 (addsW (q1) (clipW (subsW (R1) (andW (downW (E1) (8)) (sensedA a0 a1 a2))))).v, .int .i32 (q2).v, .int .i32 (q3).v] := by have h := HB.out; rw [HLN11.out, HLO11.out] at h; exact h
                      clear HB HB11 HQ11  y10_0 y10_1 y10_2 y10_3 y10_4 y10_5 y10_6 y10_7 y10_8 yn10_0 yn10_1 yn10_2 yn10_3 fr10_0 fr10_1 fr10_3 fr10_4 fn10  pl10 HC10  m1 m5
                      go_wp2_with fail
                      obtain ⟨CL, hCL⟩ : ∃ l : List (Addr × Value), l = [(⟨w.heap.size, 0, none⟩, .iface 74 (.pointer (some ⟨b, 0, none⟩))), (⟨bo7, 0, none⟩, .int .i32 (E0).v), (⟨bo7, 1, none⟩, .int .i32 (E1).v), (⟨bo7, 2, none⟩, .int .i32 (E2).v), (⟨bo7, 3, none⟩, .int .i32 (E3).v), (⟨bo10, 0, none⟩, .int .i32 (R0).v), (⟨bo10, 1, none⟩, .int .i32 (R1).v), (⟨bo10, 2, none⟩, .int .i32 (R2).v), (⟨bo10, 3, none⟩, .int .i32 (R3).v)] := ⟨_, rfl⟩
                      have HS0 : Sd wr [w.heap.size + 1] CL wr.drew := ⟨(Chg.refl wr _).drew, by rw [hCL]; simp only [List.forall_mem_cons]; exact ⟨yr0, yr1, yr2, yr3, yr4, yr5, yr6, yr7, yr8, by simp⟩⟩
                      have hU0 : ∀ p ∈ CL, p.1.block ∈ ([bo7, bo10, w.heap.size] : List Nat) := by rw [hCL]; simp only [List.forall_mem_cons]; exact ⟨by simp, by simp, by simp, by simp, by simp, by simp, by simp, by simp, by simp, by simp⟩
                      have hlt0 : ∀ u ∈ ([bo7, bo10, w.heap.size] : List Nat), u < wr.heap.size := by simp only [List.forall_mem_cons]; exact ⟨World.block_lt_of_cell? _ _ yr1, World.block_lt_of_cell? _ _ yr5, World.block_lt_of_cell? _ _ yr0, by simp⟩
                      refine Reg.wp_region (Reg.of 23 _ _ [.int .i64 2, .agg #[.iface 74 (.pointer (some ⟨b, 0, none⟩))], .int .i64 2, .pointer (some ⟨w.heap.size + 1, 2, none⟩), .int .i32 (q2).v, .agg #[.iface 74 (.pointer (some ⟨b, 0, none⟩))], .agg #[.iface 74 (.pointer (some ⟨b, 0, none⟩))], .int .i64 2, .pointer (some ⟨bo10, 2, none⟩), .int .i32 (R2).v, .agg #[.iface 74 (.pointer (some ⟨b, 0, none⟩))], .agg #[.iface 74 (.pointer (some ⟨b, 0, none⟩))], .int .i64 2, .pointer (some ⟨bo7, 2, none⟩), .int .i32 (E2).v, .int .i32 (downW (E2) (8)).v, .int .i32 (sensedA a0 a1 a2).v, .int .i32 (andW (downW (E2) (8)) (sensedA a0 a1 a2)).v, .int .i32 (subsW (R2) (andW (downW (E2) (8)) (sensedA a0 a1 a2))).v, .int .i32 (clipW (subsW (R2) (andW (downW (E2) (8)) (sensedA a0 a1 a2)))).v, .int .i32 (addsW (q2) (clipW (subsW (R2) (andW (downW (E2) (8)) (sensedA a0 a1 a2))))).v, .pointer (some ⟨w.heap.size + 1, 2, none⟩), undef] [fun _ => undef, fun _ => undef, fun _ => undef, fun _ => undef, fun _ => undef, fun _ => undef, fun _ => undef, fun _ => undef, fun _ => undef, fun _ => undef, fun _ => undef, fun _ => undef, fun _ => undef, fun _ => undef, fun _ => undef, fun _ => undef, fun _ => undef, fun _ => undef, fun _ => undef, fun _ => undef, fun _ => undef, fun _ => undef, fun _ => undef] [.val, .val, .val, .val, .val, .val, .val, .val, .val, .val, .val, .val, .val, .val, .val, .val, .val, .val, .val, .val, .val, .val, .put 23 [.int .i32 (addsW (q0) (clipW (subsW (R0) (andW (downW (E0) (8)) (sensedA a0 a1 a2))))).v, .int .i32 (addsW (q1) (clipW (subsW (R1) (andW (downW (E1) (8)) (sensedA a0 a1 a2))))).v, .int .i32 (addsW (q2) (clipW (subsW (R2) (andW (downW (E2) (8)) (sensedA a0 a1 a2))))).v, .int .i32 (q3).v]] [(27, [.int .i32 (addsW (q0) (clipW (subsW (R0) (andW (downW (E0) (8)) (sensedA a0 a1 a2))))).v, .int .i32 (addsW (q1) (clipW (subsW (R1) (andW (downW (E1) (8)) (sensedA a0 a1 a2))))).v, .int .i32 (q2).v, .int .i32 (q3).v])] [w.heap.size + 1] [] (fun _ => Sd wr [w.heap.size + 1] CL) (Fd wr [w.heap.size + 1] [bo7, bo10, w.heap.size])) (Reg.good_of _ 110 (by kernel_rfl) (by kernel_rfl)) (stands_d _ wr [w.heap.size + 1] [bo7, bo10, w.heap.size] CL rfl rfl rfl hU0 hlt0) (by kernel_rfl) HS0 (hold_of (by kernel_rfl) ?holdwz11301) (ne_of (by kernel_rfl) ?hnewz11301) (Reg.steps_of _ rfl ⟨?_, ?_, ?_, ?_, ?_, ?_, ?_, ?_, ?_, ?_, ?_, ?_, ?_, ?_, ?_, ?_, ?_, ?_, ?_, ?_, ?_, ?_, ?_, trivial⟩) ?hendwz11301
                      case holdwz11301 =>
                        intro k T c hk
                        cases k with
                        | zero => simp only [List.getElem?_cons_zero, Option.some.injEq, Prod.mk.injEq] at hk; obtain ⟨rfl, rfl⟩ := hk; exact ⟨mo, ⟨by simp; try omega, .inl (by simp)⟩⟩
                        | succ k =>
                          simp at hk
                      case hnewz11301 => intro i j hi hj hne; simp at hi hj; omega
                      case hendwz11301 =>
                        intro wz11301 γ hSz hBz hnez hOz
                        replace hSz : Sd wr [w.heap.size + 1] CL wz11301 := hSz
                        have ob0 : Blk wz11301 (w.heap.size + 1) 27 [.int .i32 (addsW (q0) (clipW (subsW (R0) (andW (downW (E0) (8)) (sensedA a0 a1 a2))))).v, .int .i32 (addsW (q1) (clipW (subsW (R1) (andW (downW (E1) (8)) (sensedA a0 a1 a2))))).v, .int .i32 (addsW (q2) (clipW (subsW (R2) (andW (downW (E2) (8)) (sensedA a0 a1 a2))))).v, .int .i32 (q3).v] := by have h := (hBz 23 27 [.int .i32 (addsW (q0) (clipW (subsW (R0) (andW (downW (E0) (8)) (sensedA a0 a1 a2))))).v, .int .i32 (addsW (q1) (clipW (subsW (R1) (andW (downW (E1) (8)) (sensedA a0 a1 a2))))).v, .int .i32 (q2).v, .int .i32 (q3).v] (by kernel_rfl) [.int .i32 (addsW (q0) (clipW (subsW (R0) (andW (downW (E0) (8)) (sensedA a0 a1 a2))))).v, .int .i32 (addsW (q1) (clipW (subsW (R1) (andW (downW (E1) (8)) (sensedA a0 a1 a2))))).v, .int .i32 (addsW (q2) (clipW (subsW (R2) (andW (downW (E2) (8)) (sensedA a0 a1 a2))))).v, .int .i32 (q3).v] (by kernel_rfl)).1; rw [hOz 23 (Nat.le_trans (Nat.le_of_eq (by kernel_rfl : _ = 23)) (by decide : 23 ≤ 23))] at h; exact h
                        refine end_of [(82, .int .i64 2), (83, .agg #[.iface 74 (.pointer (some ⟨b, 0, none⟩))]), (84, .int .i64 2), (85, .pointer (some ⟨w.heap.size + 1, 2, none⟩)), (86, .int .i32 (q2).v), (87, .agg #[.iface 74 (.pointer (some ⟨b, 0, none⟩))]), (88, .agg #[.iface 74 (.pointer (some ⟨b, 0, none⟩))]), (89, .int .i64 2), (90, .pointer (some ⟨bo10, 2, none⟩)), (91, .int .i32 (R2).v), (92, .agg #[.iface 74 (.pointer (some ⟨b, 0, none⟩))]), (93, .agg #[.iface 74 (.pointer (some ⟨b, 0, none⟩))]), (94, .int .i64 2), (95, .pointer (some ⟨bo7, 2, none⟩)), (96, .int .i32 (E2).v), (97, .int .i32 (downW (E2) (8)).v), (98, .int .i32 (sensedA a0 a1 a2).v), (99, .int .i32 (andW (downW (E2) (8)) (sensedA a0 a1 a2)).v), (100, .int .i32 (subsW (R2) (andW (downW (E2) (8)) (sensedA a0 a1 a2))).v), (101, .int .i32 (clipW (subsW (R2) (andW (downW (E2) (8)) (sensedA a0 a1 a2)))).v), (102, .int .i32 (addsW (q2) (clipW (subsW (R2) (andW (downW (E2) (8)) (sensedA a0 a1 a2))))).v), (103, .pointer (some ⟨w.heap.size + 1, 2, none⟩))] (by kernel_rfl) ?_
                        clear hBz hnez hOz HS0 hU0
                        simp only [Reg.of, List.foldl_cons, List.foldl_nil, List.setIfInBounds_toArray, List.set_cons_zero, List.set_cons_succ]
                        have HC11301 := hide (HQ.out.trans hSz.chg (D := [w.heap.size + 1]) (by simp))
                        have y11301_0 : wz11301.cell? ⟨w.heap.size, 0, none⟩ = some (.iface 74 (.pointer (some ⟨b, 0, none⟩))) := hSz.at_ 0 _ _ (by rw [hCL]; rfl)
                        have y11301_1 : wz11301.cell? ⟨bo7, 0, none⟩ = some (.int .i32 (E0).v) := hSz.at_ 1 _ _ (by rw [hCL]; rfl)
                        have y11301_2 : wz11301.cell? ⟨bo7, 1, none⟩ = some (.int .i32 (E1).v) := hSz.at_ 2 _ _ (by rw [hCL]; rfl)
                        have y11301_3 : wz11301.cell? ⟨bo7, 2, none⟩ = some (.int .i32 (E2).v) := hSz.at_ 3 _ _ (by rw [hCL]; rfl)
                        have y11301_4 : wz11301.cell? ⟨bo7, 3, none⟩ = some (.int .i32 (E3).v) := hSz.at_ 4 _ _ (by rw [hCL]; rfl)
                        have y11301_5 : wz11301.cell? ⟨bo10, 0, none⟩ = some (.int .i32 (R0).v) := hSz.at_ 5 _ _ (by rw [hCL]; rfl)
                        have y11301_6 : wz11301.cell? ⟨bo10, 1, none⟩ = some (.int .i32 (R1).v) := hSz.at_ 6 _ _ (by rw [hCL]; rfl)
                        have y11301_7 : wz11301.cell? ⟨bo10, 2, none⟩ = some (.int .i32 (R2).v) := hSz.at_ 7 _ _ (by rw [hCL]; rfl)
                        have y11301_8 : wz11301.cell? ⟨bo10, 3, none⟩ = some (.int .i32 (R3).v) := hSz.at_ 8 _ _ (by rw [hCL]; rfl)
                        clear hSz hCL hlt0 CL yr0 yr1 yr2 yr3 yr4 yr5 yr6 yr7 yr8 HQ mo
                        have mo11301_0 := ob0
                        clear ob0
                        go_wp2
                        go_roundw
                        case rel => exact ⟨3, by omega, by go_num, HC11301, hide (by rw [HLN11.out, HLO11.out]; exact mo11301_0)⟩
                        case measure => simp [intOf]
                      · intro a wu γ nph K hp hK
                        obtain ⟨e21a, e21b⟩ := hp.old_ 21 (.int .i64 2)
                        have hk := hK.pure (.int .i64 2) hp.S
                        clear hp hK
                        go_simp
                        exact hk
                      · intro a wu γ nph K hp hK
                        obtain ⟨e5a, e5b⟩ := hp.old_ 5 (.pointer (some ⟨w.heap.size, 0, none⟩))
                        have hS : Sd wr [w.heap.size + 1] CL wu := hp.S
                        have c0 := hS.at_ 0 ⟨w.heap.size, 0, none⟩ (.iface 74 (.pointer (some ⟨b, 0, none⟩))) (by rw [hCL]; rfl)
                        have hk := hK.pure (.agg #[.iface 74 (.pointer (some ⟨b, 0, none⟩))]) hp.S
                        clear hp hK hS
                        go_simp
                        exact hk
                      · intro a wu γ nph K hp hK
                        obtain ⟨e21a, e21b⟩ := hp.old_ 21 (.int .i64 2)
                        have hk := hK.pure (.int .i64 2) hp.S
                        clear hp hK
                        go_simp
                        exact hk
                      · intro a wu γ nph K hp hK
                        obtain ⟨e6a, e6b⟩ := hp.old_ 6 (.pointer (some ⟨w.heap.size + 1, 0, none⟩))
                        obtain ⟨e84a, e84b⟩ := hp.dep_ 84 2 (.int .i64 2)
                        have hk := hK.pure (.pointer (some ⟨w.heap.size + 1, 2, none⟩)) hp.S
                        clear hp hK
                        go_simp
                        exact hk
                      · intro a wu γ nph K hp hK
                        obtain ⟨e85a, e85b⟩ := hp.dep_ 85 3 (.pointer (some ⟨w.heap.size + 1, 2, none⟩))
                        have hbo0_2 := (hp.blk_ 23 (T := 27) (c := [.int .i32 (addsW (q0) (clipW (subsW (R0) (andW (downW (E0) (8)) (sensedA a0 a1 a2))))).v, .int .i32 (addsW (q1) (clipW (subsW (R1) (andW (downW (E1) (8)) (sensedA a0 a1 a2))))).v, .int .i32 (q2).v, .int .i32 (q3).v])).1
                        rw [hp.old 23 (Nat.le_trans (Nat.le_of_eq (by kernel_rfl : _ = 23)) (by decide : 23 ≤ 23))] at hbo0_2
                        have co0_2 : wu.cell? ⟨w.heap.size + 1, 2, none⟩ = some (.int .i32 (q2).v) := hbo0_2.cell' (i := 2) rfl
                        have hk := hK.pure (.int .i32 (q2).v) hp.S
                        clear hp hK
                        go_simp
                        exact hk
                      · intro a wu γ nph K hp hK
                        obtain ⟨e5a, e5b⟩ := hp.old_ 5 (.pointer (some ⟨w.heap.size, 0, none⟩))
                        have hS : Sd wr [w.heap.size + 1] CL wu := hp.S
                        have c0 := hS.at_ 0 ⟨w.heap.size, 0, none⟩ (.iface 74 (.pointer (some ⟨b, 0, none⟩))) (by rw [hCL]; rfl)
                        have hk := hK.pure (.agg #[.iface 74 (.pointer (some ⟨b, 0, none⟩))]) hp.S
                        clear hp hK hS
                        go_simp
                        exact hk
                      · intro a wu γ nph K hp hK
                        obtain ⟨e5a, e5b⟩ := hp.old_ 5 (.pointer (some ⟨w.heap.size, 0, none⟩))
                        have hS : Sd wr [w.heap.size + 1] CL wu := hp.S
                        have c0 := hS.at_ 0 ⟨w.heap.size, 0, none⟩ (.iface 74 (.pointer (some ⟨b, 0, none⟩))) (by rw [hCL]; rfl)
                        have hk := hK.pure (.agg #[.iface 74 (.pointer (some ⟨b, 0, none⟩))]) hp.S
                        clear hp hK hS
                        go_simp
                        exact hk
                      · intro a wu γ nph K hp hK
                        obtain ⟨e21a, e21b⟩ := hp.old_ 21 (.int .i64 2)
                        have hk := hK.pure (.int .i64 2) hp.S
                        clear hp hK
                        go_simp
                        exact hk
                      · intro a wu γ nph K hp hK
                        obtain ⟨e20a, e20b⟩ := hp.old_ 20 (.pointer (some ⟨bo10, 0, none⟩))
                        obtain ⟨e89a, e89b⟩ := hp.dep_ 89 7 (.int .i64 2)
                        have hk := hK.pure (.pointer (some ⟨bo10, 2, none⟩)) hp.S
                        clear hp hK
                        go_simp
                        exact hk
                      · intro a wu γ nph K hp hK
                        obtain ⟨e90a, e90b⟩ := hp.dep_ 90 8 (.pointer (some ⟨bo10, 2, none⟩))
                        have hS : Sd wr [w.heap.size + 1] CL wu := hp.S
                        have c7 := hS.at_ 7 ⟨bo10, 2, none⟩ (.int .i32 (R2).v) (by rw [hCL]; rfl)
                        have hk := hK.pure (.int .i32 (R2).v) hp.S
                        clear hp hK hS
                        go_simp
                        exact hk
                      · intro a wu γ nph K hp hK
                        obtain ⟨e5a, e5b⟩ := hp.old_ 5 (.pointer (some ⟨w.heap.size, 0, none⟩))
                        have hS : Sd wr [w.heap.size + 1] CL wu := hp.S
                        have c0 := hS.at_ 0 ⟨w.heap.size, 0, none⟩ (.iface 74 (.pointer (some ⟨b, 0, none⟩))) (by rw [hCL]; rfl)
                        have hk := hK.pure (.agg #[.iface 74 (.pointer (some ⟨b, 0, none⟩))]) hp.S
                        clear hp hK hS
                        go_simp
                        exact hk
                      · intro a wu γ nph K hp hK
                        obtain ⟨e5a, e5b⟩ := hp.old_ 5 (.pointer (some ⟨w.heap.size, 0, none⟩))
                        have hS : Sd wr [w.heap.size + 1] CL wu := hp.S
                        have c0 := hS.at_ 0 ⟨w.heap.size, 0, none⟩ (.iface 74 (.pointer (some ⟨b, 0, none⟩))) (by rw [hCL]; rfl)
                        have hk := hK.pure (.agg #[.iface 74 (.pointer (some ⟨b, 0, none⟩))]) hp.S
                        clear hp hK hS
                        go_simp
                        exact hk
                      · intro a wu γ nph K hp hK
                        obtain ⟨e21a, e21b⟩ := hp.old_ 21 (.int .i64 2)
                        have hk := hK.pure (.int .i64 2) hp.S
                        clear hp hK
                        go_simp
                        exact hk
                      · intro a wu γ nph K hp hK
                        obtain ⟨e18a, e18b⟩ := hp.old_ 18 (.pointer (some ⟨bo7, 0, none⟩))
                        obtain ⟨e94a, e94b⟩ := hp.dep_ 94 12 (.int .i64 2)
                        have hk := hK.pure (.pointer (some ⟨bo7, 2, none⟩)) hp.S
                        clear hp hK
                        go_simp
                        exact hk
                      · intro a wu γ nph K hp hK
                        obtain ⟨e95a, e95b⟩ := hp.dep_ 95 13 (.pointer (some ⟨bo7, 2, none⟩))
                        have hS : Sd wr [w.heap.size + 1] CL wu := hp.S
                        have c3 := hS.at_ 3 ⟨bo7, 2, none⟩ (.int .i32 (E2).v) (by rw [hCL]; rfl)
                        have hk := hK.pure (.int .i32 (E2).v) hp.S
                        clear hp hK hS
                        go_simp
                        exact hk
                      · intro a wu γ nph K hp hK
                        obtain ⟨e93a, e93b⟩ := hp.dep_ 93 11 (.agg #[.iface 74 (.pointer (some ⟨b, 0, none⟩))])
                        obtain ⟨e96a, e96b⟩ := hp.dep_ 96 14 (.int .i32 (E2).v)
                        have hS : Sd wr [w.heap.size + 1] CL wu := hp.S
                        have hk := hK.call (.int .i32 (downW (E2) (8)).v)
                        clear hp hK
                        go_simp
                        refine (w_down _ _ _ _ (by decide)).mono ?_
                        rintro e w7 ⟨rfl, hcX⟩
                        exact hk _ (hS.call hcX) (Reg.keep_call _ rfl hcX)
                      · intro a wu γ nph K hp hK
                        obtain ⟨e13a, e13b⟩ := hp.old_ 13 (.int .i32 (sensedA a0 a1 a2).v)
                        have hk := hK.pure (.int .i32 (sensedA a0 a1 a2).v) hp.S
                        clear hp hK
                        go_simp
                        exact hk
                      · intro a wu γ nph K hp hK
                        obtain ⟨e92a, e92b⟩ := hp.dep_ 92 10 (.agg #[.iface 74 (.pointer (some ⟨b, 0, none⟩))])
                        obtain ⟨e97a, e97b⟩ := hp.dep_ 97 15 (.int .i32 (downW (E2) (8)).v)
                        obtain ⟨e98a, e98b⟩ := hp.dep_ 98 16 (.int .i32 (sensedA a0 a1 a2).v)
                        have hS : Sd wr [w.heap.size + 1] CL wu := hp.S
                        have hk := hK.call (.int .i32 (andW (downW (E2) (8)) (sensedA a0 a1 a2)).v)
                        clear hp hK
                        go_simp
                        refine (w_and _ _ _ _).mono ?_
                        rintro e w7 ⟨rfl, hcX⟩
                        exact hk _ (hS.call hcX) (Reg.keep_call _ rfl hcX)
                      · intro a wu γ nph K hp hK
                        obtain ⟨e88a, e88b⟩ := hp.dep_ 88 6 (.agg #[.iface 74 (.pointer (some ⟨b, 0, none⟩))])
                        obtain ⟨e91a, e91b⟩ := hp.dep_ 91 9 (.int .i32 (R2).v)
                        obtain ⟨e99a, e99b⟩ := hp.dep_ 99 17 (.int .i32 (andW (downW (E2) (8)) (sensedA a0 a1 a2)).v)
                        have hS : Sd wr [w.heap.size + 1] CL wu := hp.S
                        have hk := hK.call (.int .i32 (subsW (R2) (andW (downW (E2) (8)) (sensedA a0 a1 a2))).v)
                        clear hp hK
                        go_simp
                        refine (w_subs _ _ _ _).mono ?_
                        rintro e w7 ⟨rfl, hcX⟩
                        exact hk _ (hS.call hcX) (Reg.keep_call _ rfl hcX)
                      · intro a wu γ nph K hp hK
                        obtain ⟨e87a, e87b⟩ := hp.dep_ 87 5 (.agg #[.iface 74 (.pointer (some ⟨b, 0, none⟩))])
                        obtain ⟨e100a, e100b⟩ := hp.dep_ 100 18 (.int .i32 (subsW (R2) (andW (downW (E2) (8)) (sensedA a0 a1 a2))).v)
                        have hS : Sd wr [w.heap.size + 1] CL wu := hp.S
                        have hk := hK.call (.int .i32 (clipW (subsW (R2) (andW (downW (E2) (8)) (sensedA a0 a1 a2)))).v)
                        clear hp hK
                        go_simp
                        refine (wclip_calls _ (subsW (R2) (andW (downW (E2) (8)) (sensedA a0 a1 a2))) _).mono ?_
                        rintro e w7 ⟨rfl, hcX⟩
                        exact hk _ (hS.call hcX) (Reg.keep_call _ rfl hcX)
                      · intro a wu γ nph K hp hK
                        obtain ⟨e83a, e83b⟩ := hp.dep_ 83 1 (.agg #[.iface 74 (.pointer (some ⟨b, 0, none⟩))])
                        obtain ⟨e86a, e86b⟩ := hp.dep_ 86 4 (.int .i32 (q2).v)
                        obtain ⟨e101a, e101b⟩ := hp.dep_ 101 19 (.int .i32 (clipW (subsW (R2) (andW (downW (E2) (8)) (sensedA a0 a1 a2)))).v)
                        have hS : Sd wr [w.heap.size + 1] CL wu := hp.S
                        have hk := hK.call (.int .i32 (addsW (q2) (clipW (subsW (R2) (andW (downW (E2) (8)) (sensedA a0 a1 a2))))).v)
                        clear hp hK
                        go_simp
                        refine (w_adds _ _ _ _).mono ?_
                        rintro e w7 ⟨rfl, hcX⟩
                        exact hk _ (hS.call hcX) (Reg.keep_call _ rfl hcX)
                      · intro a wu γ nph K hp hK
                        obtain ⟨e6a, e6b⟩ := hp.old_ 6 (.pointer (some ⟨w.heap.size + 1, 0, none⟩))
                        obtain ⟨e82a, e82b⟩ := hp.dep_ 82 0 (.int .i64 2)
                        have hk := hK.pure (.pointer (some ⟨w.heap.size + 1, 2, none⟩)) hp.S
                        clear hp hK
                        go_simp
                        exact hk
                      · intro a wu γ nph K hp hK
                        obtain ⟨e103a, e103b⟩ := hp.dep_ 103 21 (.pointer (some ⟨w.heap.size + 1, 2, none⟩))
                        obtain ⟨e102a, e102b⟩ := hp.dep_ 102 20 (.int .i32 (addsW (q2) (clipW (subsW (R2) (andW (downW (E2) (8)) (sensedA a0 a1 a2))))).v)
                        have hb := (hp.blk_ 23 (T := 27) (c := [.int .i32 (addsW (q0) (clipW (subsW (R0) (andW (downW (E0) (8)) (sensedA a0 a1 a2))))).v, .int .i32 (addsW (q1) (clipW (subsW (R1) (andW (downW (E1) (8)) (sensedA a0 a1 a2))))).v, .int .i32 (q2).v, .int .i32 (q3).v])).1
                        have hk := hK.put 23 27 [.int .i32 (addsW (q0) (clipW (subsW (R0) (andW (downW (E0) (8)) (sensedA a0 a1 a2))))).v, .int .i32 (addsW (q1) (clipW (subsW (R1) (andW (downW (E1) (8)) (sensedA a0 a1 a2))))).v, .int .i32 (q2).v, .int .i32 (q3).v] [.int .i32 (addsW (q0) (clipW (subsW (R0) (andW (downW (E0) (8)) (sensedA a0 a1 a2))))).v, .int .i32 (addsW (q1) (clipW (subsW (R1) (andW (downW (E1) (8)) (sensedA a0 a1 a2))))).v, .int .i32 (addsW (q2) (clipW (subsW (R2) (andW (downW (E2) (8)) (sensedA a0 a1 a2))))).v, .int .i32 (q3).v]
                        have hO : γ 23 = w.heap.size + 1 := hp.old 23 (Nat.le_trans (Nat.le_of_eq (by kernel_rfl : _ = 23)) (by decide : 23 ≤ 23))
                        rw [hO] at hb hk
                        have z2 := hb.cell' (i := 2) rfl
                        have f2 := hb.frozen 2
                        clear hp hK
                        clear hO
                        go_simp
                        exact hk _ (hb.set_ 2 _) ((Chg.refl wu _).setCell _ _ (.inl (by simp))) (by simp)
                    · have mo : Blk wr (w.heap.size + 1) 27 [.int .i32 (addsW (q0) (clipW (subsW (R0) (andW (downW (E0) (8)) (sensedA a0 a1 a2))))).v, .int .i32 (addsW (q1) (clipW (subsW (R1) (andW (downW (E1) (8)) (sensedA a0 a1 a2))))).v, .int .i32 (addsW (q2) (clipW (subsW (R2) (andW (downW (E2) (8)) (sensedA a0 a1 a2))))).v, .int .i32 (q3).v] := by have h := HB.out; rw [HLN11.out, HLO11.out] at h; exact h
                      clear HB HB11 HQ11  y10_0 y10_1 y10_2 y10_3 y10_4 y10_5 y10_6 y10_7 y10_8 yn10_0 yn10_1 yn10_2 yn10_3 fr10_0 fr10_1 fr10_3 fr10_4 fn10  pl10 HC10  m1 m5
                      go_wp2_with fail
                      obtain ⟨CL, hCL⟩ : ∃ l : List (Addr × Value), l = [(⟨w.heap.size, 0, none⟩, .iface 74 (.pointer (some ⟨b, 0, none⟩))), (⟨bo7, 0, none⟩, .int .i32 (E0).v), (⟨bo7, 1, none⟩, .int .i32 (E1).v), (⟨bo7, 2, none⟩, .int .i32 (E2).v), (⟨bo7, 3, none⟩, .int .i32 (E3).v), (⟨bo10, 0, none⟩, .int .i32 (R0).v), (⟨bo10, 1, none⟩, .int .i32 (R1).v), (⟨bo10, 2, none⟩, .int .i32 (R2).v), (⟨bo10, 3, none⟩, .int .i32 (R3).v)] := ⟨_, rfl⟩
                      have HS0 : Sd wr [w.heap.size + 1] CL wr.drew := ⟨(Chg.refl wr _).drew, by rw [hCL]; simp only [List.forall_mem_cons]; exact ⟨yr0, yr1, yr2, yr3, yr4, yr5, yr6, yr7, yr8, by simp⟩⟩
                      have hU0 : ∀ p ∈ CL, p.1.block ∈ ([bo7, bo10, w.heap.size] : List Nat) := by rw [hCL]; simp only [List.forall_mem_cons]; exact ⟨by simp, by simp, by simp, by simp, by simp, by simp, by simp, by simp, by simp, by simp⟩
                      have hlt0 : ∀ u ∈ ([bo7, bo10, w.heap.size] : List Nat), u < wr.heap.size := by simp only [List.forall_mem_cons]; exact ⟨World.block_lt_of_cell? _ _ yr1, World.block_lt_of_cell? _ _ yr5, World.block_lt_of_cell? _ _ yr0, by simp⟩
                      refine Reg.wp_region (Reg.of 23 _ _ [.int .i64 3, .agg #[.iface 74 (.pointer (some ⟨b, 0, none⟩))], .int .i64 3, .pointer (some ⟨w.heap.size + 1, 3, none⟩), .int .i32 (q3).v, .agg #[.iface 74 (.pointer (some ⟨b, 0, none⟩))], .agg #[.iface 74 (.pointer (some ⟨b, 0, none⟩))], .int .i64 3, .pointer (some ⟨bo10, 3, none⟩), .int .i32 (R3).v, .agg #[.iface 74 (.pointer (some ⟨b, 0, none⟩))], .agg #[.iface 74 (.pointer (some ⟨b, 0, none⟩))], .int .i64 3, .pointer (some ⟨bo7, 3, none⟩), .int .i32 (E3).v, .int .i32 (downW (E3) (8)).v, .int .i32 (sensedA a0 a1 a2).v, .int .i32 (andW (downW (E3) (8)) (sensedA a0 a1 a2)).v, .int .i32 (subsW (R3) (andW (downW (E3) (8)) (sensedA a0 a1 a2))).v, .int .i32 (clipW (subsW (R3) (andW (downW (E3) (8)) (sensedA a0 a1 a2)))).v, .int .i32 (addsW (q3) (clipW (subsW (R3) (andW (downW (E3) (8)) (sensedA a0 a1 a2))))).v, .pointer (some ⟨w.heap.size + 1, 3, none⟩), undef] [fun _ => undef, fun _ => undef, fun _ => undef, fun _ => undef, fun _ => undef, fun _ => undef, fun _ => undef, fun _ => undef, fun _ => undef, fun _ => undef, fun _ => undef, fun _ => undef, fun _ => undef, fun _ => undef, fun _ => undef, fun _ => undef, fun _ => undef, fun _ => undef, fun _ => undef, fun _ => undef, fun _ => undef, fun _ => undef, fun _ => undef] [.val, .val, .val, .val, .val, .val, .val, .val, .val, .val, .val, .val, .val, .val, .val, .val, .val, .val, .val, .val, .val, .val, .put 23 [.int .i32 (addsW (q0) (clipW (subsW (R0) (andW (downW (E0) (8)) (sensedA a0 a1 a2))))).v, .int .i32 (addsW (q1) (clipW (subsW (R1) (andW (downW (E1) (8)) (sensedA a0 a1 a2))))).v, .int .i32 (addsW (q2) (clipW (subsW (R2) (andW (downW (E2) (8)) (sensedA a0 a1 a2))))).v, .int .i32 (addsW (q3) (clipW (subsW (R3) (andW (downW (E3) (8)) (sensedA a0 a1 a2))))).v]] [(27, [.int .i32 (addsW (q0) (clipW (subsW (R0) (andW (downW (E0) (8)) (sensedA a0 a1 a2))))).v, .int .i32 (addsW (q1) (clipW (subsW (R1) (andW (downW (E1) (8)) (sensedA a0 a1 a2))))).v, .int .i32 (addsW (q2) (clipW (subsW (R2) (andW (downW (E2) (8)) (sensedA a0 a1 a2))))).v, .int .i32 (q3).v])] [w.heap.size + 1] [] (fun _ => Sd wr [w.heap.size + 1] CL) (Fd wr [w.heap.size + 1] [bo7, bo10, w.heap.size])) (Reg.good_of _ 110 (by kernel_rfl) (by kernel_rfl)) (stands_d _ wr [w.heap.size + 1] [bo7, bo10, w.heap.size] CL rfl rfl rfl hU0 hlt0) (by kernel_rfl) HS0 (hold_of (by kernel_rfl) ?holdwz11401) (ne_of (by kernel_rfl) ?hnewz11401) (Reg.steps_of _ rfl ⟨?_, ?_, ?_, ?_, ?_, ?_, ?_, ?_, ?_, ?_, ?_, ?_, ?_, ?_, ?_, ?_, ?_, ?_, ?_, ?_, ?_, ?_, ?_, trivial⟩) ?hendwz11401
                      case holdwz11401 =>
                        intro k T c hk
                        cases k with
                        | zero => simp only [List.getElem?_cons_zero, Option.some.injEq, Prod.mk.injEq] at hk; obtain ⟨rfl, rfl⟩ := hk; exact ⟨mo, ⟨by simp; try omega, .inl (by simp)⟩⟩
                        | succ k =>
                          simp at hk
                      case hnewz11401 => intro i j hi hj hne; simp at hi hj; omega
                      case hendwz11401 =>
                        intro wz11401 γ hSz hBz hnez hOz
                        replace hSz : Sd wr [w.heap.size + 1] CL wz11401 := hSz
                        have ob0 : Blk wz11401 (w.heap.size + 1) 27 [.int .i32 (addsW (q0) (clipW (subsW (R0) (andW (downW (E0) (8)) (sensedA a0 a1 a2))))).v, .int .i32 (addsW (q1) (clipW (subsW (R1) (andW (downW (E1) (8)) (sensedA a0 a1 a2))))).v, .int .i32 (addsW (q2) (clipW (subsW (R2) (andW (downW (E2) (8)) (sensedA a0 a1 a2))))).v, .int .i32 (addsW (q3) (clipW (subsW (R3) (andW (downW (E3) (8)) (sensedA a0 a1 a2))))).v] := by have h := (hBz 23 27 [.int .i32 (addsW (q0) (clipW (subsW (R0) (andW (downW (E0) (8)) (sensedA a0 a1 a2))))).v, .int .i32 (addsW (q1) (clipW (subsW (R1) (andW (downW (E1) (8)) (sensedA a0 a1 a2))))).v, .int .i32 (addsW (q2) (clipW (subsW (R2) (andW (downW (E2) (8)) (sensedA a0 a1 a2))))).v, .int .i32 (q3).v] (by kernel_rfl) [.int .i32 (addsW (q0) (clipW (subsW (R0) (andW (downW (E0) (8)) (sensedA a0 a1 a2))))).v, .int .i32 (addsW (q1) (clipW (subsW (R1) (andW (downW (E1) (8)) (sensedA a0 a1 a2))))).v, .int .i32 (addsW (q2) (clipW (subsW (R2) (andW (downW (E2) (8)) (sensedA a0 a1 a2))))).v, .int .i32 (addsW (q3) (clipW (subsW (R3) (andW (downW (E3) (8)) (sensedA a0 a1 a2))))).v] (by kernel_rfl)).1; rw [hOz 23 (Nat.le_trans (Nat.le_of_eq (by kernel_rfl : _ = 23)) (by decide : 23 ≤ 23))] at h; exact h
                        refine end_of [(82, .int .i64 3), (83, .agg #[.iface 74 (.pointer (some ⟨b, 0, none⟩))]), (84, .int .i64 3), (85, .pointer (some ⟨w.heap.size + 1, 3, none⟩)), (86, .int .i32 (q3).v), (87, .agg #[.iface 74 (.pointer (some ⟨b, 0, none⟩))]), (88, .agg #[.iface 74 (.pointer (some ⟨b, 0, none⟩))]), (89, .int .i64 3), (90, .pointer (some ⟨bo10, 3, none⟩)), (91, .int .i32 (R3).v), (92, .agg #[.iface 74 (.pointer (some ⟨b, 0, none⟩))]), (93, .agg #[.iface 74 (.pointer (some ⟨b, 0, none⟩))]), (94, .int .i64 3), (95, .pointer (some ⟨bo7, 3, none⟩)), (96, .int .i32 (E3).v), (97, .int .i32 (downW (E3) (8)).v), (98, .int .i32 (sensedA a0 a1 a2).v), (99, .int .i32 (andW (downW (E3) (8)) (sensedA a0 a1 a2)).v), (100, .int .i32 (subsW (R3) (andW (downW (E3) (8)) (sensedA a0 a1 a2))).v), (101, .int .i32 (clipW (subsW (R3) (andW (downW (E3) (8)) (sensedA a0 a1 a2)))).v), (102, .int .i32 (addsW (q3) (clipW (subsW (R3) (andW (downW (E3) (8)) (sensedA a0 a1 a2))))).v), (103, .pointer (some ⟨w.heap.size + 1, 3, none⟩))] (by kernel_rfl) ?_
                        clear hBz hnez hOz HS0 hU0
                        simp only [Reg.of, List.foldl_cons, List.foldl_nil, List.setIfInBounds_toArray, List.set_cons_zero, List.set_cons_succ]
                        have HC11401 := hide (HQ.out.trans hSz.chg (D := [w.heap.size + 1]) (by simp))
                        have y11401_0 : wz11401.cell? ⟨w.heap.size, 0, none⟩ = some (.iface 74 (.pointer (some ⟨b, 0, none⟩))) := hSz.at_ 0 _ _ (by rw [hCL]; rfl)
                        have y11401_1 : wz11401.cell? ⟨bo7, 0, none⟩ = some (.int .i32 (E0).v) := hSz.at_ 1 _ _ (by rw [hCL]; rfl)
                        have y11401_2 : wz11401.cell? ⟨bo7, 1, none⟩ = some (.int .i32 (E1).v) := hSz.at_ 2 _ _ (by rw [hCL]; rfl)
                        have y11401_3 : wz11401.cell? ⟨bo7, 2, none⟩ = some (.int .i32 (E2).v) := hSz.at_ 3 _ _ (by rw [hCL]; rfl)
                        have y11401_4 : wz11401.cell? ⟨bo7, 3, none⟩ = some (.int .i32 (E3).v) := hSz.at_ 4 _ _ (by rw [hCL]; rfl)
                        have y11401_5 : wz11401.cell? ⟨bo10, 0, none⟩ = some (.int .i32 (R0).v) := hSz.at_ 5 _ _ (by rw [hCL]; rfl)
                        have y11401_6 : wz11401.cell? ⟨bo10, 1, none⟩ = some (.int .i32 (R1).v) := hSz.at_ 6 _ _ (by rw [hCL]; rfl)
                        have y11401_7 : wz11401.cell? ⟨bo10, 2, none⟩ = some (.int .i32 (R2).v) := hSz.at_ 7 _ _ (by rw [hCL]; rfl)
                        have y11401_8 : wz11401.cell? ⟨bo10, 3, none⟩ = some (.int .i32 (R3).v) := hSz.at_ 8 _ _ (by rw [hCL]; rfl)
                        clear hSz hCL hlt0 CL yr0 yr1 yr2 yr3 yr4 yr5 yr6 yr7 yr8 HQ mo
                        have mo11401_0 := ob0
                        clear ob0
                        go_wp2
                        go_roundw
                        case rel => exact ⟨4, by omega, by go_num, HC11401, hide (by rw [HLN11.out, HLO11.out]; exact mo11401_0)⟩
                        case measure => simp [intOf]
                      · intro a wu γ nph K hp hK
                        obtain ⟨e21a, e21b⟩ := hp.old_ 21 (.int .i64 3)
                        have hk := hK.pure (.int .i64 3) hp.S
                        clear hp hK
                        go_simp
                        exact hk
                      · intro a wu γ nph K hp hK
                        obtain ⟨e5a, e5b⟩ := hp.old_ 5 (.pointer (some ⟨w.heap.size, 0, none⟩))
                        have hS : Sd wr [w.heap.size + 1] CL wu := hp.S
                        have c0 := hS.at_ 0 ⟨w.heap.size, 0, none⟩ (.iface 74 (.pointer (some ⟨b, 0, none⟩))) (by rw [hCL]; rfl)
                        have hk := hK.pure (.agg #[.iface 74 (.pointer (some ⟨b, 0, none⟩))]) hp.S
                        clear hp hK hS
                        go_simp
                        exact hk
                      · intro a wu γ nph K hp hK
                        obtain ⟨e21a, e21b⟩ := hp.old_ 21 (.int .i64 3)
                        have hk := hK.pure (.int .i64 3) hp.S
                        clear hp hK
                        go_simp
                        exact hk
                      · intro a wu γ nph K hp hK
                        obtain ⟨e6a, e6b⟩ := hp.old_ 6 (.pointer (some ⟨w.heap.size + 1, 0, none⟩))
                        obtain ⟨e84a, e84b⟩ := hp.dep_ 84 2 (.int .i64 3)
                        have hk := hK.pure (.pointer (some ⟨w.heap.size + 1, 3, none⟩)) hp.S
                        clear hp hK
                        go_simp
                        exact hk
                      · intro a wu γ nph K hp hK
                        obtain ⟨e85a, e85b⟩ := hp.dep_ 85 3 (.pointer (some ⟨w.heap.size + 1, 3, none⟩))
                        have hbo0_3 := (hp.blk_ 23 (T := 27) (c := [.int .i32 (addsW (q0) (clipW (subsW (R0) (andW (downW (E0) (8)) (sensedA a0 a1 a2))))).v, .int .i32 (addsW (q1) (clipW (subsW (R1) (andW (downW (E1) (8)) (sensedA a0 a1 a2))))).v, .int .i32 (addsW (q2) (clipW (subsW (R2) (andW (downW (E2) (8)) (sensedA a0 a1 a2))))).v, .int .i32 (q3).v])).1
                        rw [hp.old 23 (Nat.le_trans (Nat.le_of_eq (by kernel_rfl : _ = 23)) (by decide : 23 ≤ 23))] at hbo0_3
                        have co0_3 : wu.cell? ⟨w.heap.size + 1, 3, none⟩ = some (.int .i32 (q3).v) := hbo0_3.cell' (i := 3) rfl
                        have hk := hK.pure (.int .i32 (q3).v) hp.S
                        clear hp hK
                        go_simp
                        exact hk
                      · intro a wu γ nph K hp hK
                        obtain ⟨e5a, e5b⟩ := hp.old_ 5 (.pointer (some ⟨w.heap.size, 0, none⟩))
                        have hS : Sd wr [w.heap.size + 1] CL wu := hp.S
                        have c0 := hS.at_ 0 ⟨w.heap.size, 0, none⟩ (.iface 74 (.pointer (some ⟨b, 0, none⟩))) (by rw [hCL]; rfl)
                        have hk := hK.pure (.agg #[.iface 74 (.pointer (some ⟨b, 0, none⟩))]) hp.S
                        clear hp hK hS
                        go_simp
                        exact hk
                      · intro a wu γ nph K hp hK
                        obtain ⟨e5a, e5b⟩ := hp.old_ 5 (.pointer (some ⟨w.heap.size, 0, none⟩))
                        have hS : Sd wr [w.heap.size + 1] CL wu := hp.S
                        have c0 := hS.at_ 0 ⟨w.heap.size, 0, none⟩ (.iface 74 (.pointer (some ⟨b, 0, none⟩))) (by rw [hCL]; rfl)
                        have hk := hK.pure (.agg #[.iface 74 (.pointer (some ⟨b, 0, none⟩))]) hp.S
                        clear hp hK hS
                        go_simp
                        exact hk
                      · intro a wu γ nph K hp hK
                        obtain ⟨e21a, e21b⟩ := hp.old_ 21 (.int .i64 3)
                        have hk := hK.pure (.int .i64 3) hp.S
                        clear hp hK
                        go_simp
                        exact hk
                      · intro a wu γ nph K hp hK
                        obtain ⟨e20a, e20b⟩ := hp.old_ 20 (.pointer (some ⟨bo10, 0, none⟩))
                        obtain ⟨e89a, e89b⟩ := hp.dep_ 89 7 (.int .i64 3)
                        have hk := hK.pure (.pointer (some ⟨bo10, 3, none⟩)) hp.S
                        clear hp hK
                        go_simp
                        exact hk
                      · intro a wu γ nph K hp hK
                        obtain ⟨e90a, e90b⟩ := hp.dep_ 90 8 (.pointer (some ⟨bo10, 3, none⟩))
                        have hS : Sd wr [w.heap.size + 1] CL wu := hp.S
                        have c8 := hS.at_ 8 ⟨bo10, 3, none⟩ (.int .i32 (R3).v) (by rw [hCL]; rfl)
                        have hk := hK.pure (.int .i32 (R3).v) hp.S
                        clear hp hK hS
                        go_simp
                        exact hk
                      · intro a wu γ nph K hp hK
                        obtain ⟨e5a, e5b⟩ := hp.old_ 5 (.pointer (some ⟨w.heap.size, 0, none⟩))
                        have hS : Sd wr [w.heap.size + 1] CL wu := hp.S
                        have c0 := hS.at_ 0 ⟨w.heap.size, 0, none⟩ (.iface 74 (.pointer (some ⟨b, 0, none⟩))) (by rw [hCL]; rfl)
                        have hk := hK.pure (.agg #[.iface 74 (.pointer (some ⟨b, 0, none⟩))]) hp.S
                        clear hp hK hS
                        go_simp
                        exact hk
                      · intro a wu γ nph K hp hK
                        obtain ⟨e5a, e5b⟩ := hp.old_ 5 (.pointer (some ⟨w.heap.size, 0, none⟩))
                        have hS : Sd wr [w.heap.size + 1] CL wu := hp.S
                        have c0 := hS.at_ 0 ⟨w.heap.size, 0, none⟩ (.iface 74 (.pointer (some ⟨b, 0, none⟩))) (by rw [hCL]; rfl)
                        have hk := hK.pure (.agg #[.iface 74 (.pointer (some ⟨b, 0, none⟩))]) hp.S
                        clear hp hK hS
                        go_simp
                        exact hk
                      · intro a wu γ nph K hp hK
                        obtain ⟨e21a, e21b⟩ := hp.old_ 21 (.int .i64 3)
                        have hk := hK.pure (.int .i64 3) hp.S
                        clear hp hK
                        go_simp
                        exact hk
                      · intro a wu γ nph K hp hK
                        obtain ⟨e18a, e18b⟩ := hp.old_ 18 (.pointer (some ⟨bo7, 0, none⟩))
                        obtain ⟨e94a, e94b⟩ := hp.dep_ 94 12 (.int .i64 3)
                        have hk := hK.pure (.pointer (some ⟨bo7, 3, none⟩)) hp.S
                        clear hp hK
                        go_simp
                        exact hk
                      · intro a wu γ nph K hp hK
                        obtain ⟨e95a, e95b⟩ := hp.dep_ 95 13 (.pointer (some ⟨bo7, 3, none⟩))
                        have hS : Sd wr [w.heap.size + 1] CL wu := hp.S
                        have c4 := hS.at_ 4 ⟨bo7, 3, none⟩ (.int .i32 (E3).v) (by rw [hCL]; rfl)
                        have hk := hK.pure (.int .i32 (E3).v) hp.S
                        clear hp hK hS
                        go_simp
                        exact hk
                      · intro a wu γ nph K hp hK
                        obtain ⟨e93a, e93b⟩ := hp.dep_ 93 11 (.agg #[.iface 74 (.pointer (some ⟨b, 0, none⟩))])
                        obtain ⟨e96a, e96b⟩ := hp.dep_ 96 14 (.int .i32 (E3).v)
                        have hS : Sd wr [w.heap.size + 1] CL wu := hp.S
                        have hk := hK.call (.int .i32 (downW (E3) (8)).v)
                        clear hp hK
                        go_simp
                        refine (w_down _ _ _ _ (by decide)).mono ?_
                        rintro e w7 ⟨rfl, hcX⟩
                        exact hk _ (hS.call hcX) (Reg.keep_call _ rfl hcX)
                      · intro a wu γ nph K hp hK
                        obtain ⟨e13a, e13b⟩ := hp.old_ 13 (.int .i32 (sensedA a0 a1 a2).v)
                        have hk := hK.pure (.int .i32 (sensedA a0 a1 a2).v) hp.S
                        clear hp hK
                        go_simp
                        exact hk
                      · intro a wu γ nph K hp hK
                        obtain ⟨e92a, e92b⟩ := hp.dep_ 92 10 (.agg #[.iface 74 (.pointer (some ⟨b, 0, none⟩))])
                        obtain ⟨e97a, e97b⟩ := hp.dep_ 97 15 (.int .i32 (downW (E3) (8)).v)
                        obtain ⟨e98a, e98b⟩ := hp.dep_ 98 16 (.int .i32 (sensedA a0 a1 a2).v)
                        have hS : Sd wr [w.heap.size + 1] CL wu := hp.S
                        have hk := hK.call (.int .i32 (andW (downW (E3) (8)) (sensedA a0 a1 a2)).v)
                        clear hp hK
                        go_simp
                        refine (w_and _ _ _ _).mono ?_
                        rintro e w7 ⟨rfl, hcX⟩
                        exact hk _ (hS.call hcX) (Reg.keep_call _ rfl hcX)
                      · intro a wu γ nph K hp hK
                        obtain ⟨e88a, e88b⟩ := hp.dep_ 88 6 (.agg #[.iface 74 (.pointer (some ⟨b, 0, none⟩))])
                        obtain ⟨e91a, e91b⟩ := hp.dep_ 91 9 (.int .i32 (R3).v)
                        obtain ⟨e99a, e99b⟩ := hp.dep_ 99 17 (.int .i32 (andW (downW (E3) (8)) (sensedA a0 a1 a2)).v)
                        have hS : Sd wr [w.heap.size + 1] CL wu := hp.S
                        have hk := hK.call (.int .i32 (subsW (R3) (andW (downW (E3) (8)) (sensedA a0 a1 a2))).v)
                        clear hp hK
                        go_simp
                        refine (w_subs _ _ _ _).mono ?_
                        rintro e w7 ⟨rfl, hcX⟩
                        exact hk _ (hS.call hcX) (Reg.keep_call _ rfl hcX)
                      · intro a wu γ nph K hp hK
                        obtain ⟨e87a, e87b⟩ := hp.dep_ 87 5 (.agg #[.iface 74 (.pointer (some ⟨b, 0, none⟩))])
                        obtain ⟨e100a, e100b⟩ := hp.dep_ 100 18 (.int .i32 (subsW (R3) (andW (downW (E3) (8)) (sensedA a0 a1 a2))).v)
                        have hS : Sd wr [w.heap.size + 1] CL wu := hp.S
                        have hk := hK.call (.int .i32 (clipW (subsW (R3) (andW (downW (E3) (8)) (sensedA a0 a1 a2)))).v)
                        clear hp hK
                        go_simp
                        refine (wclip_calls _ (subsW (R3) (andW (downW (E3) (8)) (sensedA a0 a1 a2))) _).mono ?_
                        rintro e w7 ⟨rfl, hcX⟩
                        exact hk _ (hS.call hcX) (Reg.keep_call _ rfl hcX)
                      · intro a wu γ nph K hp hK
                        obtain ⟨e83a, e83b⟩ := hp.dep_ 83 1 (.agg #[.iface 74 (.pointer (some ⟨b, 0, none⟩))])
                        obtain ⟨e86a, e86b⟩ := hp.dep_ 86 4 (.int .i32 (q3).v)
                        obtain ⟨e101a, e101b⟩ := hp.dep_ 101 19 (.int .i32 (clipW (subsW (R3) (andW (downW (E3) (8)) (sensedA a0 a1 a2)))).v)
                        have hS : Sd wr [w.heap.size + 1] CL wu := hp.S
                        have hk := hK.call (.int .i32 (addsW (q3) (clipW (subsW (R3) (andW (downW (E3) (8)) (sensedA a0 a1 a2))))).v)
                        clear hp hK
                        go_simp
                        refine (w_adds _ _ _ _).mono ?_
                        rintro e w7 ⟨rfl, hcX⟩
                        exact hk _ (hS.call hcX) (Reg.keep_call _ rfl hcX)
                      · intro a wu γ nph K hp hK
                        obtain ⟨e6a, e6b⟩ := hp.old_ 6 (.pointer (some ⟨w.heap.size + 1, 0, none⟩))
                        obtain ⟨e82a, e82b⟩ := hp.dep_ 82 0 (.int .i64 3)
                        have hk := hK.pure (.pointer (some ⟨w.heap.size + 1, 3, none⟩)) hp.S
                        clear hp hK
                        go_simp
                        exact hk
                      · intro a wu γ nph K hp hK
                        obtain ⟨e103a, e103b⟩ := hp.dep_ 103 21 (.pointer (some ⟨w.heap.size + 1, 3, none⟩))
                        obtain ⟨e102a, e102b⟩ := hp.dep_ 102 20 (.int .i32 (addsW (q3) (clipW (subsW (R3) (andW (downW (E3) (8)) (sensedA a0 a1 a2))))).v)
                        have hb := (hp.blk_ 23 (T := 27) (c := [.int .i32 (addsW (q0) (clipW (subsW (R0) (andW (downW (E0) (8)) (sensedA a0 a1 a2))))).v, .int .i32 (addsW (q1) (clipW (subsW (R1) (andW (downW (E1) (8)) (sensedA a0 a1 a2))))).v, .int .i32 (addsW (q2) (clipW (subsW (R2) (andW (downW (E2) (8)) (sensedA a0 a1 a2))))).v, .int .i32 (q3).v])).1
                        have hk := hK.put 23 27 [.int .i32 (addsW (q0) (clipW (subsW (R0) (andW (downW (E0) (8)) (sensedA a0 a1 a2))))).v, .int .i32 (addsW (q1) (clipW (subsW (R1) (andW (downW (E1) (8)) (sensedA a0 a1 a2))))).v, .int .i32 (addsW (q2) (clipW (subsW (R2) (andW (downW (E2) (8)) (sensedA a0 a1 a2))))).v, .int .i32 (q3).v] [.int .i32 (addsW (q0) (clipW (subsW (R0) (andW (downW (E0) (8)) (sensedA a0 a1 a2))))).v, .int .i32 (addsW (q1) (clipW (subsW (R1) (andW (downW (E1) (8)) (sensedA a0 a1 a2))))).v, .int .i32 (addsW (q2) (clipW (subsW (R2) (andW (downW (E2) (8)) (sensedA a0 a1 a2))))).v, .int .i32 (addsW (q3) (clipW (subsW (R3) (andW (downW (E3) (8)) (sensedA a0 a1 a2))))).v]
                        have hO : γ 23 = w.heap.size + 1 := hp.old 23 (Nat.le_trans (Nat.le_of_eq (by kernel_rfl : _ = 23)) (by decide : 23 ≤ 23))
                        rw [hO] at hb hk
                        have z3 := hb.cell' (i := 3) rfl
                        have f3 := hb.frozen 3
                        clear hp hK
                        clear hO
                        go_simp
                        exact hk _ (hb.set_ 3 _) ((Chg.refl wu _).setCell _ _ (.inl (by simp))) (by simp)
                    · have mo : Blk wr (w.heap.size + 1) 27 [.int .i32 (addsW (q0) (clipW (subsW (R0) (andW (downW (E0) (8)) (sensedA a0 a1 a2))))).v, .int .i32 (addsW (q1) (clipW (subsW (R1) (andW (downW (E1) (8)) (sensedA a0 a1 a2))))).v, .int .i32 (addsW (q2) (clipW (subsW (R2) (andW (downW (E2) (8)) (sensedA a0 a1 a2))))).v, .int .i32 (addsW (q3) (clipW (subsW (R3) (andW (downW (E3) (8)) (sensedA a0 a1 a2))))).v] := by have h := HB.out; rw [HLN11.out, HLO11.out] at h; exact h
                      have hq11 := HQ.out
                      have hd11 := dof_chg pl10 hq11 (fun hm => by simp at hm; subst hm; exact fr10_1 pl10.mem)
                      have pq11 := pl10.chg hq11 (fun j hj hm => by simp at hm; subst hm; exact fr10_1 hj)
                      have fr11_0 := fr10_0
                      rw [← hd11] at fr11_0
                      have fr11_1 := fr10_1
                      rw [← hd11] at fr11_1
                      have fr11_2 := fr10_3
                      rw [← hd11] at fr11_2
                      have fr11_3 := fr10_4
                      rw [← hd11] at fr11_3
                      have fr11_4 := fn10
                      rw [← hd11] at fr11_4
                      have HC11 := hide (HC10.out.put pl10 hq11 fr10_1 (by omega))
                      replace m5 := m5.chg hq11 (by simp; try omega)
                      have yq11_0 : wr.cell? ⟨w.heap.size + 1, 0, none⟩ = some (.int .i32 (addsW (q0) (clipW (subsW (R0) (andW (downW (E0) (8)) (sensedA a0 a1 a2))))).v) := mo.cell' (i := 0) rfl
                      have yq11_1 : wr.cell? ⟨w.heap.size + 1, 1, none⟩ = some (.int .i32 (addsW (q1) (clipW (subsW (R1) (andW (downW (E1) (8)) (sensedA a0 a1 a2))))).v) := mo.cell' (i := 1) rfl
                      have yq11_2 : wr.cell? ⟨w.heap.size + 1, 2, none⟩ = some (.int .i32 (addsW (q2) (clipW (subsW (R2) (andW (downW (E2) (8)) (sensedA a0 a1 a2))))).v) := mo.cell' (i := 2) rfl
                      have yq11_3 : wr.cell? ⟨w.heap.size + 1, 3, none⟩ = some (.int .i32 (addsW (q3) (clipW (subsW (R3) (andW (downW (E3) (8)) (sensedA a0 a1 a2))))).v) := mo.cell' (i := 3) rfl
                      clear y10_0 y10_1 y10_2 y10_3 y10_4 y10_5 y10_6 y10_7 y10_8 yn10_0 yn10_1 yn10_2 yn10_3 fr10_0 fr10_1 fr10_3 fr10_4 fn10 pl10 HC10 m1 hq11 hd11 HQ HB HB11 HQ11
                      generalize hww11 : wr = wq11 at *
                      clear hww11
                      have mo11 := mo
                      clear mo
                      obtain ⟨Q0, hQ0⟩ : ∃ x, x = partW q0 R0 E0 (sensedA a0 a1 a2) := ⟨_, rfl⟩
                      replace yq11_0 : wq11.cell? ⟨w.heap.size + 1, 0, none⟩ = some (.int .i32 Q0.v) := by rw [hQ0]; exact yq11_0
                      have HQ0 := hide hQ0
                      clear hQ0
                      obtain ⟨Q1, hQ1⟩ : ∃ x, x = partW q1 R1 E1 (sensedA a0 a1 a2) := ⟨_, rfl⟩
                      replace yq11_1 : wq11.cell? ⟨w.heap.size + 1, 1, none⟩ = some (.int .i32 Q1.v) := by rw [hQ1]; exact yq11_1
                      have HQ1 := hide hQ1
                      clear hQ1
                      obtain ⟨Q2, hQ2⟩ : ∃ x, x = partW q2 R2 E2 (sensedA a0 a1 a2) := ⟨_, rfl⟩
                      replace yq11_2 : wq11.cell? ⟨w.heap.size + 1, 2, none⟩ = some (.int .i32 Q2.v) := by rw [hQ2]; exact yq11_2
                      have HQ2 := hide hQ2
                      clear hQ2
                      obtain ⟨Q3, hQ3⟩ : ∃ x, x = partW q3 R3 E3 (sensedA a0 a1 a2) := ⟨_, rfl⟩
                      replace yq11_3 : wq11.cell? ⟨w.heap.size + 1, 3, none⟩ = some (.int .i32 Q3.v) := by rw [hQ3]; exact yq11_3
                      have HQ3 := hide hQ3
                      clear hQ3
                      go_wp2_with fail
                      refine (wunit_calls b Q0 Q1 Q2 Q3 _ _ (by omega) pq11).mono ?_
                      rintro e wz12 ⟨rfl, pl12, htX⟩
                      have y12_0 := htX.cell yr0 fr11_0
                      have y12_1 := htX.cell yr1 fr11_3
                      have y12_2 := htX.cell yr2 fr11_3
                      have y12_3 := htX.cell yr3 fr11_3
                      have y12_4 := htX.cell yr4 fr11_3
                      have y12_5 := htX.cell yr5 fr11_4
                      have y12_6 := htX.cell yr6 fr11_4
                      have y12_7 := htX.cell yr7 fr11_4
                      have y12_8 := htX.cell yr8 fr11_4
                      have y12_9 := htX.cell yq11_0 fr11_1
                      have y12_10 := htX.cell yq11_1 fr11_1
                      have y12_11 := htX.cell yq11_2 fr11_1
                      have y12_12 := htX.cell yq11_3 fr11_1
                      have fr12_0 := htX.far (World.block_lt_of_cell? _ _ yr0) fr11_0
                      have fr12_1 := htX.far (World.block_lt_of_cell? _ _ yq11_0) fr11_1
                      have fr12_2 := htX.far m5.lt fr11_2
                      have fr12_3 := htX.far (World.block_lt_of_cell? _ _ yr1) fr11_3
                      have fr12_4 := htX.far (World.block_lt_of_cell? _ _ yr5) fr11_4
                      have HC12 := hide (HC11.out.trans htX)
                      replace m5 := m5.chg htX.chg fr11_2
                      clear htX yr0 yr1 yr2 yr3 yr4 yr5 yr6 yr7 yr8 yq11_0 yq11_1 yq11_2 yq11_3 fr11_0 fr11_1 fr11_2 fr11_3 fr11_4 pq11 HC11
                      have xr0 := m5.cell' (i := 0) rfl
                      have xf0 := m5.frozen 0
                      have xr1 := m5.cell' (i := 1) rfl
                      have xf1 := m5.frozen 1
                      have xr2 := m5.cell' (i := 2) rfl
                      have xf2 := m5.frozen 2
                      have xr3 := m5.cell' (i := 3) rfl
                      have xf3 := m5.frozen 3
                      have fr5 := fr12_2
                      go_wp2
                      have hQ3 := HQ3.out
                      subst hQ3
                      have hQ2 := HQ2.out
                      subst hQ2
                      have hQ1 := HQ1.out
                      subst hQ1
                      have hQ0 := HQ0.out
                      subst hQ0
                      have hR3 := HR3.out
                      subst hR3
                      have hR2 := HR2.out
                      subst hR2
                      have hR1 := HR1.out
                      subst hR1
                      have hR0 := HR0.out
                      subst hR0
                      have hG2 := HG2.out
                      subst hG2
                      have hG1 := HG1.out
                      subst hG1
                      have hG0 := HG0.out
                      subst hG0
                      have hE3 := HE3.out
                      subst hE3
                      have hE2 := HE2.out
                      subst hE2
                      have hE1 := HE1.out
                      subst hE1
                      have hE0 := HE0.out
                      subst hE0
                      have hD3 := HD3.out
                      subst hD3
                      have hD2 := HD2.out
                      subst hD2
                      have hD1 := HD1.out
                      subst hD1
                      have hD0 := HD0.out
                      subst hD0
                      have hN3 := HN3.out
                      subst hN3
                      have hN2 := HN2.out
                      subst hN2
                      have hN1 := HN1.out
                      subst hN1
                      have hN0 := HN0.out
                      subst hN0
                      have hP3 := HP3.out
                      subst hP3
                      have hP2 := HP2.out
                      subst hP2
                      have hP1 := HP1.out
                      subst hP1
                      have hP0 := HP0.out
                      subst hP0
                      refine bodyPost_ret (v := .tuple #[.agg #[.int .i32 (sensedW q0 q1 q2 q3 u0 u1 u2 a0 a1 a2 v0 v1 v2).a.v, .int .i32 (sensedW q0 q1 q2 q3 u0 u1 u2 a0 a1 a2 v0 v1 v2).b.v, .int .i32 (sensedW q0 q1 q2 q3 u0 u1 u2 a0 a1 a2 v0 v1 v2).c.v, .int .i32 (sensedW q0 q1 q2 q3 u0 u1 u2 a0 a1 a2 v0 v1 v2).d.v], .int .i32 (sensedA a0 a1 a2).v, .int .i32 (sensedM v0 v1 v2).v]) (by simp [results, Tryz.f73, go_sem, xr0, xr1, xr2, xr3]; first | exact ⟨⟨rfl, rfl, rfl, rfl⟩, rfl, rfl⟩ | exact ⟨rfl, rfl, rfl, rfl⟩ | exact ⟨rfl, rfl, rfl, rfl, rfl, rfl⟩) rfl ⟨rfl, pl12.chg (((((Chg.refl wz12 [w.heap.size + 1 + 1 + 1 + 1 + 1]).setCell _ _ (.inl (by simp))).setCell _ _ (.inl (by simp))).setCell _ _ (.inl (by simp))).setCell _ _ (.inl (by simp))) (fun j hj hm => by simp at hm; subst hm; exact fr5 hj), HC12.out.put pl12 (((((Chg.refl wz12 [w.heap.size + 1 + 1 + 1 + 1 + 1]).setCell _ _ (.inl (by simp))).setCell _ _ (.inl (by simp))).setCell _ _ (.inl (by simp))).setCell _ _ (.inl (by simp))) fr5 (by omega)⟩
        · intro a wu γ nph K hp hK
          obtain ⟨e5a, e5b⟩ := hp.old_ 5 (.pointer (some ⟨w.heap.size, 0, none⟩))
          have hS : Sp wz3 b (fun k => most (n + 1 + k)) [] CL nph wu := hp.S
          have c0 := hS.at_ 0 ⟨w.heap.size, 0, none⟩ (.iface 74 (.pointer (some ⟨b, 0, none⟩))) (by rw [hCL]; rfl)
          have hk := hK.pure (.agg #[.iface 74 (.pointer (some ⟨b, 0, none⟩))]) hp.S
          clear hp hK hS
          go_simp
          exact hk
        · intro a wu γ nph K hp hK
          obtain ⟨e6a, e6b⟩ := hp.old_ 6 (.pointer (some ⟨w.heap.size + 1, 0, none⟩))
          have hS : Sp wz3 b (fun k => most (n + 1 + k)) [] CL nph wu := hp.S
          have c1 := hS.at_ 1 ⟨w.heap.size + 1, 0, none⟩ (.int .i32 (q0).v) (by rw [hCL]; rfl)
          have c2 := hS.at_ 2 ⟨w.heap.size + 1, 1, none⟩ (.int .i32 (q1).v) (by rw [hCL]; rfl)
          have c3 := hS.at_ 3 ⟨w.heap.size + 1, 2, none⟩ (.int .i32 (q2).v) (by rw [hCL]; rfl)
          have c4 := hS.at_ 4 ⟨w.heap.size + 1, 3, none⟩ (.int .i32 (q3).v) (by rw [hCL]; rfl)
          have hk := hK.pure (.agg #[.int .i32 (q0).v, .int .i32 (q1).v, .int .i32 (q2).v, .int .i32 (q3).v]) hp.S
          clear hp hK hS
          go_simp
          exact hk
        · intro a wu γ nph K hp hK
          obtain ⟨e5a, e5b⟩ := hp.old_ 5 (.pointer (some ⟨w.heap.size, 0, none⟩))
          have hS : Sp wz3 b (fun k => most (n + 1 + k)) [] CL nph wu := hp.S
          have c0 := hS.at_ 0 ⟨w.heap.size, 0, none⟩ (.iface 74 (.pointer (some ⟨b, 0, none⟩))) (by rw [hCL]; rfl)
          have hk := hK.pure (.agg #[.iface 74 (.pointer (some ⟨b, 0, none⟩))]) hp.S
          clear hp hK hS
          go_simp
          exact hk
        · intro a wu γ nph K hp hK
          obtain ⟨e9a, e9b⟩ := hp.old_ 9 (.pointer (some ⟨w.heap.size + 1 + 1 + 1 + 1, 0, none⟩))
          have hS : Sp wz3 b (fun k => most (n + 1 + k)) [] CL nph wu := hp.S
          have c5 := hS.at_ 5 ⟨w.heap.size + 1 + 1 + 1 + 1, 0, none⟩ (.int .i32 (v0).v) (by rw [hCL]; rfl)
          have c6 := hS.at_ 6 ⟨w.heap.size + 1 + 1 + 1 + 1, 1, none⟩ (.int .i32 (v1).v) (by rw [hCL]; rfl)
          have c7 := hS.at_ 7 ⟨w.heap.size + 1 + 1 + 1 + 1, 2, none⟩ (.int .i32 (v2).v) (by rw [hCL]; rfl)
          have hk := hK.pure (.agg #[.int .i32 (v0).v, .int .i32 (v1).v, .int .i32 (v2).v]) hp.S
          clear hp hK hS
          go_simp
          exact hk
        · intro a wu γ nph K hp hK
          obtain ⟨e40a, e40b⟩ := hp.dep_ 40 2 (.agg #[.iface 74 (.pointer (some ⟨b, 0, none⟩))])
          obtain ⟨e41a, e41b⟩ := hp.dep_ 41 3 (.agg #[.int .i32 (v0).v, .int .i32 (v1).v, .int .i32 (v2).v])
          have hS : Sp wz3 b (fun k => most (n + 1 + k)) [] CL nph wu := hp.S
          have hn : nph = 0 := hp.eff 0 (by kernel_rfl)
          have hk := hK.eff (.agg #[.int .i32 ((pointW (v0) (v1) (v2)).a).v, .int .i32 ((pointW (v0) (v1) (v2)).b).v, .int .i32 ((pointW (v0) (v1) (v2)).c).v])
          clear hp hK
          subst hn
          go_simp
          refine (wpoint_calls b (v0) (v1) (v2) _ _ (by first | assumption | (simp; omega) | omega) hS.pl).mono ?_
          rintro e w7 ⟨rfl, hpR, htR⟩
          exact hk _ (hS.eff hap hpR htR) (Reg.keep_eff _ rfl htR)
        · intro a wu γ nph K hp hK
          obtain ⟨e38a, e38b⟩ := hp.dep_ 38 0 (.agg #[.iface 74 (.pointer (some ⟨b, 0, none⟩))])
          obtain ⟨e39a, e39b⟩ := hp.dep_ 39 1 (.agg #[.int .i32 (q0).v, .int .i32 (q1).v, .int .i32 (q2).v, .int .i32 (q3).v])
          obtain ⟨e42a, e42b⟩ := hp.dep_ 42 4 (.agg #[.int .i32 ((pointW (v0) (v1) (v2)).a).v, .int .i32 ((pointW (v0) (v1) (v2)).b).v, .int .i32 ((pointW (v0) (v1) (v2)).c).v])
          have hS : Sp wz3 b (fun k => most (n + 1 + k)) [] CL nph wu := hp.S
          have hn : nph = 1 := hp.eff 1 (by kernel_rfl)
          have hk := hK.eff (.agg #[.int .i32 ((fieldW (q0) (q1) (q2) (q3) ((pointW (v0) (v1) (v2)).a) ((pointW (v0) (v1) (v2)).b) ((pointW (v0) (v1) (v2)).c)).a).v, .int .i32 ((fieldW (q0) (q1) (q2) (q3) ((pointW (v0) (v1) (v2)).a) ((pointW (v0) (v1) (v2)).b) ((pointW (v0) (v1) (v2)).c)).b).v, .int .i32 ((fieldW (q0) (q1) (q2) (q3) ((pointW (v0) (v1) (v2)).a) ((pointW (v0) (v1) (v2)).b) ((pointW (v0) (v1) (v2)).c)).c).v, .int .i32 ((fieldW (q0) (q1) (q2) (q3) ((pointW (v0) (v1) (v2)).a) ((pointW (v0) (v1) (v2)).b) ((pointW (v0) (v1) (v2)).c)).d).v])
          clear hp hK
          subst hn
          go_simp
          refine (wfield_calls b (q0) (q1) (q2) (q3) ((pointW (v0) (v1) (v2)).a) ((pointW (v0) (v1) (v2)).b) ((pointW (v0) (v1) (v2)).c) _ _ (by first | assumption | (simp; omega) | omega) hS.pl).mono ?_
          rintro e w7 ⟨rfl, hpR, htR⟩
          exact hk _ (hS.eff hap hpR htR) (Reg.keep_eff _ rfl htR)
        · intro a wu γ nph K hp hK
          have hk := hK.new 27 [.int .i32 0, .int .i32 0, .int .i32 0, .int .i32 0] (fun g => .pointer (some ⟨g, 0, none⟩))
          clear hp hK
          go_simp
          exact hk
        · intro a wu γ nph K hp hK
          obtain ⟨e16a, e16b⟩ := hp.dep_ 16 6 (.pointer (some ⟨γ 6, 0, none⟩))
          obtain ⟨e43a, e43b⟩ := hp.dep_ 43 5 (.agg #[.int .i32 ((fieldW (q0) (q1) (q2) (q3) ((pointW (v0) (v1) (v2)).a) ((pointW (v0) (v1) (v2)).b) ((pointW (v0) (v1) (v2)).c)).a).v, .int .i32 ((fieldW (q0) (q1) (q2) (q3) ((pointW (v0) (v1) (v2)).a) ((pointW (v0) (v1) (v2)).b) ((pointW (v0) (v1) (v2)).c)).b).v, .int .i32 ((fieldW (q0) (q1) (q2) (q3) ((pointW (v0) (v1) (v2)).a) ((pointW (v0) (v1) (v2)).b) ((pointW (v0) (v1) (v2)).c)).c).v, .int .i32 ((fieldW (q0) (q1) (q2) (q3) ((pointW (v0) (v1) (v2)).a) ((pointW (v0) (v1) (v2)).b) ((pointW (v0) (v1) (v2)).c)).d).v])
          have hb := (hp.blk_ 6 (T := 27) (c := [.int .i32 0, .int .i32 0, .int .i32 0, .int .i32 0])).1
          have hk := hK.put 6 27 [.int .i32 0, .int .i32 0, .int .i32 0, .int .i32 0] [.int .i32 ((fieldW (q0) (q1) (q2) (q3) ((pointW (v0) (v1) (v2)).a) ((pointW (v0) (v1) (v2)).b) ((pointW (v0) (v1) (v2)).c)).a).v, .int .i32 ((fieldW (q0) (q1) (q2) (q3) ((pointW (v0) (v1) (v2)).a) ((pointW (v0) (v1) (v2)).b) ((pointW (v0) (v1) (v2)).c)).b).v, .int .i32 ((fieldW (q0) (q1) (q2) (q3) ((pointW (v0) (v1) (v2)).a) ((pointW (v0) (v1) (v2)).b) ((pointW (v0) (v1) (v2)).c)).c).v, .int .i32 ((fieldW (q0) (q1) (q2) (q3) ((pointW (v0) (v1) (v2)).a) ((pointW (v0) (v1) (v2)).b) ((pointW (v0) (v1) (v2)).c)).d).v]
          have z0 := hb.cell' (i := 0) rfl
          have f0 := hb.frozen 0
          have z1 := hb.cell' (i := 1) rfl
          have f1 := hb.frozen 1
          have z2 := hb.cell' (i := 2) rfl
          have f2 := hb.frozen 2
          have z3 := hb.cell' (i := 3) rfl
          have f3 := hb.frozen 3
          clear hp hK
          go_simp
          exact hk _ ((((hb.set_ 0 _).set_ 1 _).set_ 2 _).set_ 3 _) (((((Chg.refl wu _).setCell _ _ (.inl (by simp))).setCell _ _ (.inl (by simp))).setCell _ _ (.inl (by simp))).setCell _ _ (.inl (by simp))) (by simp)
      · intro a wu γ nph K hp hK
        obtain ⟨e5a, e5b⟩ := hp.old_ 5 (.pointer (some ⟨w.heap.size, 0, none⟩))
        have hS : Sp wz2 b (fun k => most (n + k)) [] CL nph wu := hp.S
        have c0 := hS.at_ 0 ⟨w.heap.size, 0, none⟩ (.iface 74 (.pointer (some ⟨b, 0, none⟩))) (by rw [hCL]; rfl)
        have hk := hK.pure (.agg #[.iface 74 (.pointer (some ⟨b, 0, none⟩))]) hp.S
        clear hp hK hS
        go_simp
        exact hk
      · intro a wu γ nph K hp hK
        obtain ⟨e6a, e6b⟩ := hp.old_ 6 (.pointer (some ⟨w.heap.size + 1, 0, none⟩))
        have hS : Sp wz2 b (fun k => most (n + k)) [] CL nph wu := hp.S
        have c1 := hS.at_ 1 ⟨w.heap.size + 1, 0, none⟩ (.int .i32 (q0).v) (by rw [hCL]; rfl)
        have c2 := hS.at_ 2 ⟨w.heap.size + 1, 1, none⟩ (.int .i32 (q1).v) (by rw [hCL]; rfl)
        have c3 := hS.at_ 3 ⟨w.heap.size + 1, 2, none⟩ (.int .i32 (q2).v) (by rw [hCL]; rfl)
        have c4 := hS.at_ 4 ⟨w.heap.size + 1, 3, none⟩ (.int .i32 (q3).v) (by rw [hCL]; rfl)
        have hk := hK.pure (.agg #[.int .i32 (q0).v, .int .i32 (q1).v, .int .i32 (q2).v, .int .i32 (q3).v]) hp.S
        clear hp hK hS
        go_simp
        exact hk
      · intro a wu γ nph K hp hK
        obtain ⟨e5a, e5b⟩ := hp.old_ 5 (.pointer (some ⟨w.heap.size, 0, none⟩))
        have hS : Sp wz2 b (fun k => most (n + k)) [] CL nph wu := hp.S
        have c0 := hS.at_ 0 ⟨w.heap.size, 0, none⟩ (.iface 74 (.pointer (some ⟨b, 0, none⟩))) (by rw [hCL]; rfl)
        have hk := hK.pure (.agg #[.iface 74 (.pointer (some ⟨b, 0, none⟩))]) hp.S
        clear hp hK hS
        go_simp
        exact hk
      · intro a wu γ nph K hp hK
        obtain ⟨e8a, e8b⟩ := hp.old_ 8 (.pointer (some ⟨w.heap.size + 1 + 1 + 1, 0, none⟩))
        have hS : Sp wz2 b (fun k => most (n + k)) [] CL nph wu := hp.S
        have c5 := hS.at_ 5 ⟨w.heap.size + 1 + 1 + 1, 0, none⟩ (.int .i32 (a0).v) (by rw [hCL]; rfl)
        have c6 := hS.at_ 6 ⟨w.heap.size + 1 + 1 + 1, 1, none⟩ (.int .i32 (a1).v) (by rw [hCL]; rfl)
        have c7 := hS.at_ 7 ⟨w.heap.size + 1 + 1 + 1, 2, none⟩ (.int .i32 (a2).v) (by rw [hCL]; rfl)
        have hk := hK.pure (.agg #[.int .i32 (a0).v, .int .i32 (a1).v, .int .i32 (a2).v]) hp.S
        clear hp hK hS
        go_simp
        exact hk
      · intro a wu γ nph K hp hK
        obtain ⟨e34a, e34b⟩ := hp.dep_ 34 2 (.agg #[.iface 74 (.pointer (some ⟨b, 0, none⟩))])
        obtain ⟨e35a, e35b⟩ := hp.dep_ 35 3 (.agg #[.int .i32 (a0).v, .int .i32 (a1).v, .int .i32 (a2).v])
        have hS : Sp wz2 b (fun k => most (n + k)) [] CL nph wu := hp.S
        have hn : nph = 0 := hp.eff 0 (by kernel_rfl)
        have hk := hK.eff (.agg #[.int .i32 ((pointW (a0) (a1) (a2)).a).v, .int .i32 ((pointW (a0) (a1) (a2)).b).v, .int .i32 ((pointW (a0) (a1) (a2)).c).v])
        clear hp hK
        subst hn
        go_simp
        refine (wpoint_calls b (a0) (a1) (a2) _ _ (by first | assumption | (simp; omega) | omega) hS.pl).mono ?_
        rintro e w7 ⟨rfl, hpR, htR⟩
        exact hk _ (hS.eff hap hpR htR) (Reg.keep_eff _ rfl htR)
      · intro a wu γ nph K hp hK
        obtain ⟨e32a, e32b⟩ := hp.dep_ 32 0 (.agg #[.iface 74 (.pointer (some ⟨b, 0, none⟩))])
        obtain ⟨e33a, e33b⟩ := hp.dep_ 33 1 (.agg #[.int .i32 (q0).v, .int .i32 (q1).v, .int .i32 (q2).v, .int .i32 (q3).v])
        obtain ⟨e36a, e36b⟩ := hp.dep_ 36 4 (.agg #[.int .i32 ((pointW (a0) (a1) (a2)).a).v, .int .i32 ((pointW (a0) (a1) (a2)).b).v, .int .i32 ((pointW (a0) (a1) (a2)).c).v])
        have hS : Sp wz2 b (fun k => most (n + k)) [] CL nph wu := hp.S
        have hk := hK.call (.agg #[.int .i32 ((pullW (q0) (q1) (q2) (q3) ((pointW (a0) (a1) (a2)).a) ((pointW (a0) (a1) (a2)).b) ((pointW (a0) (a1) (a2)).c)).a).v, .int .i32 ((pullW (q0) (q1) (q2) (q3) ((pointW (a0) (a1) (a2)).a) ((pointW (a0) (a1) (a2)).b) ((pointW (a0) (a1) (a2)).c)).b).v, .int .i32 ((pullW (q0) (q1) (q2) (q3) ((pointW (a0) (a1) (a2)).a) ((pointW (a0) (a1) (a2)).b) ((pointW (a0) (a1) (a2)).c)).c).v, .int .i32 ((pullW (q0) (q1) (q2) (q3) ((pointW (a0) (a1) (a2)).a) ((pointW (a0) (a1) (a2)).b) ((pointW (a0) (a1) (a2)).c)).d).v])
        clear hp hK
        go_simp
        refine (wpull_calls _ (q0) (q1) (q2) (q3) ((pointW (a0) (a1) (a2)).a) ((pointW (a0) (a1) (a2)).b) ((pointW (a0) (a1) (a2)).c) _).mono ?_
        rintro e w7 ⟨rfl, hcX⟩
        exact hk _ (hS.call hcX) (Reg.keep_callp _ rfl hS hcX)
      · intro a wu γ nph K hp hK
        have hk := hK.new 27 [.int .i32 0, .int .i32 0, .int .i32 0, .int .i32 0] (fun g => .pointer (some ⟨g, 0, none⟩))
        clear hp hK
        go_simp
        exact hk
      · intro a wu γ nph K hp hK
        obtain ⟨e15a, e15b⟩ := hp.dep_ 15 6 (.pointer (some ⟨γ 6, 0, none⟩))
        obtain ⟨e37a, e37b⟩ := hp.dep_ 37 5 (.agg #[.int .i32 ((pullW (q0) (q1) (q2) (q3) ((pointW (a0) (a1) (a2)).a) ((pointW (a0) (a1) (a2)).b) ((pointW (a0) (a1) (a2)).c)).a).v, .int .i32 ((pullW (q0) (q1) (q2) (q3) ((pointW (a0) (a1) (a2)).a) ((pointW (a0) (a1) (a2)).b) ((pointW (a0) (a1) (a2)).c)).b).v, .int .i32 ((pullW (q0) (q1) (q2) (q3) ((pointW (a0) (a1) (a2)).a) ((pointW (a0) (a1) (a2)).b) ((pointW (a0) (a1) (a2)).c)).c).v, .int .i32 ((pullW (q0) (q1) (q2) (q3) ((pointW (a0) (a1) (a2)).a) ((pointW (a0) (a1) (a2)).b) ((pointW (a0) (a1) (a2)).c)).d).v])
        have hb := (hp.blk_ 6 (T := 27) (c := [.int .i32 0, .int .i32 0, .int .i32 0, .int .i32 0])).1
        have hk := hK.put 6 27 [.int .i32 0, .int .i32 0, .int .i32 0, .int .i32 0] [.int .i32 ((pullW (q0) (q1) (q2) (q3) ((pointW (a0) (a1) (a2)).a) ((pointW (a0) (a1) (a2)).b) ((pointW (a0) (a1) (a2)).c)).a).v, .int .i32 ((pullW (q0) (q1) (q2) (q3) ((pointW (a0) (a1) (a2)).a) ((pointW (a0) (a1) (a2)).b) ((pointW (a0) (a1) (a2)).c)).b).v, .int .i32 ((pullW (q0) (q1) (q2) (q3) ((pointW (a0) (a1) (a2)).a) ((pointW (a0) (a1) (a2)).b) ((pointW (a0) (a1) (a2)).c)).c).v, .int .i32 ((pullW (q0) (q1) (q2) (q3) ((pointW (a0) (a1) (a2)).a) ((pointW (a0) (a1) (a2)).b) ((pointW (a0) (a1) (a2)).c)).d).v]
        have z0 := hb.cell' (i := 0) rfl
        have f0 := hb.frozen 0
        have z1 := hb.cell' (i := 1) rfl
        have f1 := hb.frozen 1
        have z2 := hb.cell' (i := 2) rfl
        have f2 := hb.frozen 2
        have z3 := hb.cell' (i := 3) rfl
        have f3 := hb.frozen 3
        clear hp hK
        go_simp
        exact hk _ ((((hb.set_ 0 _).set_ 1 _).set_ 2 _).set_ 3 _) (((((Chg.refl wu _).setCell _ _ (.inl (by simp))).setCell _ _ (.inl (by simp))).setCell _ _ (.inl (by simp))).setCell _ _ (.inl (by simp))) (by simp)
    · intro a wu γ nph K hp hK
      obtain ⟨e5a, e5b⟩ := hp.old_ 5 (.pointer (some ⟨w.heap.size, 0, none⟩))
      have hS : Sp wz1 b (fun _ => (most n)) [] CL nph wu := hp.S
      have c0 := hS.at_ 0 ⟨w.heap.size, 0, none⟩ (.iface 74 (.pointer (some ⟨b, 0, none⟩))) (by rw [hCL]; rfl)
      have hk := hK.pure (.agg #[.iface 74 (.pointer (some ⟨b, 0, none⟩))]) hp.S
      clear hp hK hS
      go_simp
      exact hk
    · intro a wu γ nph K hp hK
      obtain ⟨e5a, e5b⟩ := hp.old_ 5 (.pointer (some ⟨w.heap.size, 0, none⟩))
      have hS : Sp wz1 b (fun _ => (most n)) [] CL nph wu := hp.S
      have c0 := hS.at_ 0 ⟨w.heap.size, 0, none⟩ (.iface 74 (.pointer (some ⟨b, 0, none⟩))) (by rw [hCL]; rfl)
      have hk := hK.pure (.agg #[.iface 74 (.pointer (some ⟨b, 0, none⟩))]) hp.S
      clear hp hK hS
      go_simp
      exact hk
    · intro a wu γ nph K hp hK
      obtain ⟨e9a, e9b⟩ := hp.old_ 9 (.pointer (some ⟨w.heap.size + 1 + 1 + 1 + 1, 0, none⟩))
      have hS : Sp wz1 b (fun _ => (most n)) [] CL nph wu := hp.S
      have c8 := hS.at_ 8 ⟨w.heap.size + 1 + 1 + 1 + 1, 0, none⟩ (.int .i32 (v0).v) (by rw [hCL]; rfl)
      have c9 := hS.at_ 9 ⟨w.heap.size + 1 + 1 + 1 + 1, 1, none⟩ (.int .i32 (v1).v) (by rw [hCL]; rfl)
      have c10 := hS.at_ 10 ⟨w.heap.size + 1 + 1 + 1 + 1, 2, none⟩ (.int .i32 (v2).v) (by rw [hCL]; rfl)
      have hk := hK.pure (.agg #[.int .i32 (v0).v, .int .i32 (v1).v, .int .i32 (v2).v]) hp.S
      clear hp hK hS
      go_simp
      exact hk
    · intro a wu γ nph K hp hK
      obtain ⟨e28a, e28b⟩ := hp.dep_ 28 1 (.agg #[.iface 74 (.pointer (some ⟨b, 0, none⟩))])
      obtain ⟨e29a, e29b⟩ := hp.dep_ 29 2 (.agg #[.int .i32 (v0).v, .int .i32 (v1).v, .int .i32 (v2).v])
      have hS : Sp wz1 b (fun _ => (most n)) [] CL nph wu := hp.S
      have hk := hK.call (.int .i32 (squareW (v0) (v1) (v2)).v)
      clear hp hK
      go_simp
      refine (wsquare_calls _ _ _ _ _).mono ?_
      rintro e w7 ⟨rfl, hcX⟩
      exact hk _ (hS.call hcX) (Reg.keep_callp _ rfl hS hcX)
    · intro a wu γ nph K hp hK
      obtain ⟨e27a, e27b⟩ := hp.dep_ 27 0 (.agg #[.iface 74 (.pointer (some ⟨b, 0, none⟩))])
      obtain ⟨e30a, e30b⟩ := hp.dep_ 30 3 (.int .i32 (squareW (v0) (v1) (v2)).v)
      have hS : Sp wz1 b (fun _ => (most n)) [] CL nph wu := hp.S
      have hk := hK.call (.int .i32 (withinW (squareW (v0) (v1) (v2)) (kW 1000000) (kW 400000000)).v)
      clear hp hK
      go_simp
      refine (wwithin_calls _ _ 1000000 400000000 _ (by decide) (by decide)).mono ?_
      rintro e w7 ⟨rfl, hcX⟩
      exact hk _ (hS.call hcX) (Reg.keep_callp _ rfl hS hcX)
    · intro a wu γ nph K hp hK
      obtain ⟨e31a, e31b⟩ := hp.dep_ 31 4 (.int .i32 (withinW (squareW (v0) (v1) (v2)) (kW 1000000) (kW 400000000)).v)
      have hk := hK.pure (.int .i32 (withinW (squareW (v0) (v1) (v2)) (kW 1000000) (kW 400000000)).v) hp.S
      clear hp hK
      go_simp
      exact hk
  · intro a wu γ nph K hp hK
    obtain ⟨e5a, e5b⟩ := hp.old_ 5 (.pointer (some ⟨w.heap.size, 0, none⟩))
    have hS : Sp w6 b (fun _ => (most n)) [] CL nph wu := hp.S
    have c0 := hS.at_ 0 ⟨w.heap.size, 0, none⟩ (.iface 74 (.pointer (some ⟨b, 0, none⟩))) (by rw [hCL]; rfl)
    have hk := hK.pure (.agg #[.iface 74 (.pointer (some ⟨b, 0, none⟩))]) hp.S
    clear hp hK hS
    go_simp
    exact hk
  · intro a wu γ nph K hp hK
    obtain ⟨e5a, e5b⟩ := hp.old_ 5 (.pointer (some ⟨w.heap.size, 0, none⟩))
    have hS : Sp w6 b (fun _ => (most n)) [] CL nph wu := hp.S
    have c0 := hS.at_ 0 ⟨w.heap.size, 0, none⟩ (.iface 74 (.pointer (some ⟨b, 0, none⟩))) (by rw [hCL]; rfl)
    have hk := hK.pure (.agg #[.iface 74 (.pointer (some ⟨b, 0, none⟩))]) hp.S
    clear hp hK hS
    go_simp
    exact hk
  · intro a wu γ nph K hp hK
    obtain ⟨e8a, e8b⟩ := hp.old_ 8 (.pointer (some ⟨w.heap.size + 1 + 1 + 1, 0, none⟩))
    have hS : Sp w6 b (fun _ => (most n)) [] CL nph wu := hp.S
    have c5 := hS.at_ 5 ⟨w.heap.size + 1 + 1 + 1, 0, none⟩ (.int .i32 (a0).v) (by rw [hCL]; rfl)
    have c6 := hS.at_ 6 ⟨w.heap.size + 1 + 1 + 1, 1, none⟩ (.int .i32 (a1).v) (by rw [hCL]; rfl)
    have c7 := hS.at_ 7 ⟨w.heap.size + 1 + 1 + 1, 2, none⟩ (.int .i32 (a2).v) (by rw [hCL]; rfl)
    have hk := hK.pure (.agg #[.int .i32 (a0).v, .int .i32 (a1).v, .int .i32 (a2).v]) hp.S
    clear hp hK hS
    go_simp
    exact hk
  · intro a wu γ nph K hp hK
    obtain ⟨e23a, e23b⟩ := hp.dep_ 23 1 (.agg #[.iface 74 (.pointer (some ⟨b, 0, none⟩))])
    obtain ⟨e24a, e24b⟩ := hp.dep_ 24 2 (.agg #[.int .i32 (a0).v, .int .i32 (a1).v, .int .i32 (a2).v])
    have hS : Sp w6 b (fun _ => (most n)) [] CL nph wu := hp.S
    have hk := hK.call (.int .i32 (squareW (a0) (a1) (a2)).v)
    clear hp hK
    go_simp
    refine (wsquare_calls _ _ _ _ _).mono ?_
    rintro e w7 ⟨rfl, hcX⟩
    exact hk _ (hS.call hcX) (Reg.keep_callp _ rfl hS hcX)
  · intro a wu γ nph K hp hK
    obtain ⟨e22a, e22b⟩ := hp.dep_ 22 0 (.agg #[.iface 74 (.pointer (some ⟨b, 0, none⟩))])
    obtain ⟨e25a, e25b⟩ := hp.dep_ 25 3 (.int .i32 (squareW (a0) (a1) (a2)).v)
    have hS : Sp w6 b (fun _ => (most n)) [] CL nph wu := hp.S
    have hk := hK.call (.int .i32 (withinW (squareW (a0) (a1) (a2)) (kW 16777216) (kW 150994944)).v)
    clear hp hK
    go_simp
    refine (wwithin_calls _ _ 16777216 150994944 _ (by decide) (by decide)).mono ?_
    rintro e w7 ⟨rfl, hcX⟩
    exact hk _ (hS.call hcX) (Reg.keep_callp _ rfl hS hcX)
  · intro a wu γ nph K hp hK
    obtain ⟨e26a, e26b⟩ := hp.dep_ 26 4 (.int .i32 (withinW (squareW (a0) (a1) (a2)) (kW 16777216) (kW 150994944)).v)
    have hk := hK.pure (.int .i32 (withinW (squareW (a0) (a1) (a2)) (kW 16777216) (kW 150994944)).v) hp.S
    clear hp hK
    go_simp
    exact hk

end Go.Proofs.YtbmfcedndbgpoaaGreat
