/- clip, Unit of package works at numbers. -/
import Derived.Test.YtbmfcedndbgpoaaGreatWorks8
import Derived.Test.YtbmfcedndbgpoaaGreatUnitDef
namespace Go.Proofs.YtbmfcedndbgpoaaGreat
open Go.RowKit Go.Deep
set_option linter.unusedVariables false
set_option maxRecDepth 100000 in
set_option maxHeartbeats 4000000 in
theorem wclip_calls (p : Addr) (x : Wd) (w : World) :
    Calls Tryz.prog 118 #[.agg #[.iface 74 (.pointer (some p))], .int .i32 x.v] w fun e w' => e = .returned (.int .i32 (clipW x).v) ∧ Chg w w' [] := by
  have k0 := Blk.new w 52 [.iface 74 (.pointer (some p))]
  have m0 := k0
  have g0_0 := m0.cell' (i := 0) rfl
  have HC := hide ((Chg.refl w []).alloc (.cells #[.iface 74 (.pointer (some p))] 52))
  clear k0
  clear m0
  have h1 := nil_const p
  have h2 := meth_const p
  go_enter Tryz.func118, Tryz.ntmps118
  go_wp2_with fail
  generalize (w.alloc (.cells #[.iface 74 (.pointer (some p))] 52)) = w6 at *
  obtain ⟨CL, hCL⟩ : ∃ l : List (Addr × Value), l = [(⟨w.heap.size, 0, none⟩, .iface 74 (.pointer (some p)))] := ⟨_, rfl⟩
  have HS0 : Sd w6 [] CL w6.drew := ⟨(Chg.refl w6 _).drew, by rw [hCL]; simp only [List.forall_mem_cons]; exact ⟨g0_0, by simp⟩⟩
  have hU0 : ∀ p ∈ CL, p.1.block ∈ ([w.heap.size] : List Nat) := by rw [hCL]; simp only [List.forall_mem_cons]; exact ⟨by simp, by simp⟩
  have hlt0 : ∀ u ∈ ([w.heap.size] : List Nat), u < w6.heap.size := by simp only [List.forall_mem_cons]; exact ⟨World.block_lt_of_cell? _ _ g0_0, by simp⟩
  refine Reg.wp_region (Reg.of 12 _ _ [.agg #[.iface 74 (.pointer (some p))], .agg #[.iface 74 (.pointer (some p))], .int .i32 (x).v, .pointer (some ⟨w.heap.size, 0, none⟩), .iface 74 (.pointer (some p)), .int .i32 (kW (-134217728)).v, .int .i32 (maxW (x) (kW (-134217728))).v, .pointer (some ⟨w.heap.size, 0, none⟩), .iface 74 (.pointer (some p)), .int .i32 (kW (134217728)).v, .int .i32 (minW (maxW (x) (kW (-134217728))) (kW (134217728))).v, .int .i32 (minW (maxW (x) (kW (-134217728))) (kW (134217728))).v] [fun _ => undef, fun _ => undef, fun _ => undef, fun _ => undef, fun _ => undef, fun _ => undef, fun _ => undef, fun _ => undef, fun _ => undef, fun _ => undef, fun _ => undef, fun _ => undef] [.val, .val, .val, .val, .val, .val, .val, .val, .val, .val, .val, .val] [] [] [] (fun _ => Sd w6 [] CL) (Fd w6 [] [w.heap.size])) (Reg.good_of _ 16 (by kernel_rfl) (by kernel_rfl)) (stands_d _ w6 [] [w.heap.size] CL rfl rfl rfl hU0 hlt0) (by kernel_rfl) HS0 (hold_of (by kernel_rfl) ?holdwz1) (ne_of (by kernel_rfl) ?hnewz1) (Reg.steps_of _ rfl ⟨?_, ?_, ?_, ?_, ?_, ?_, ?_, ?_, ?_, ?_, ?_, ?_, trivial⟩) ?hendwz1
  case holdwz1 =>
    intro k T c hk; simp at hk
  case hnewz1 => intro i j hi hj hne; exact absurd hi (by simp)
  case hendwz1 =>
    intro wz1 γ hSz hBz hnez hOz
    replace hSz : Sd w6 [] CL wz1 := hSz
    refine end_of [(4, .int .i32 (minW (maxW (x) (kW (-134217728))) (kW (134217728))).v), (5, .agg #[.iface 74 (.pointer (some p))]), (6, .agg #[.iface 74 (.pointer (some p))]), (7, .int .i32 (x).v), (8, .pointer (some ⟨w.heap.size, 0, none⟩)), (9, .iface 74 (.pointer (some p))), (10, .int .i32 (kW (-134217728)).v), (11, .int .i32 (maxW (x) (kW (-134217728))).v), (12, .pointer (some ⟨w.heap.size, 0, none⟩)), (13, .iface 74 (.pointer (some p))), (14, .int .i32 (kW (134217728)).v), (15, .int .i32 (minW (maxW (x) (kW (-134217728))) (kW (134217728))).v)] (by kernel_rfl) ?_
    clear hBz hnez hOz HS0 hU0
    simp only [Reg.of, List.foldl_cons, List.foldl_nil, List.setIfInBounds_toArray, List.set_cons_zero, List.set_cons_succ]
    have HC1 := hide (HC.out.trans hSz.chg (D := []) (by simp; try omega))
    have y1_0 : wz1.cell? ⟨w.heap.size, 0, none⟩ = some (.iface 74 (.pointer (some p))) := hSz.at_ 0 _ _ (by rw [hCL]; rfl)
    clear hSz hCL hlt0 CL g0_0 HC 
    go_wp2
    go_ret
    exact ⟨rfl, HC1.out⟩
  · intro a wu γ nph K hp hK
    obtain ⟨e2a, e2b⟩ := hp.old_ 2 (.pointer (some ⟨w.heap.size, 0, none⟩))
    have hS : Sd w6 [] CL wu := hp.S
    have c0 := hS.at_ 0 ⟨w.heap.size, 0, none⟩ (.iface 74 (.pointer (some p))) (by rw [hCL]; rfl)
    have hk := hK.pure (.agg #[.iface 74 (.pointer (some p))]) hp.S
    clear hp hK hS
    go_simp
    exact hk
  · intro a wu γ nph K hp hK
    obtain ⟨e2a, e2b⟩ := hp.old_ 2 (.pointer (some ⟨w.heap.size, 0, none⟩))
    have hS : Sd w6 [] CL wu := hp.S
    have c0 := hS.at_ 0 ⟨w.heap.size, 0, none⟩ (.iface 74 (.pointer (some p))) (by rw [hCL]; rfl)
    have hk := hK.pure (.agg #[.iface 74 (.pointer (some p))]) hp.S
    clear hp hK hS
    go_simp
    exact hk
  · intro a wu γ nph K hp hK
    obtain ⟨e1a, e1b⟩ := hp.old_ 1 (.int .i32 (x).v)
    have hk := hK.pure (.int .i32 (x).v) hp.S
    clear hp hK
    go_simp
    exact hk
  · intro a wu γ nph K hp hK
    obtain ⟨e2a, e2b⟩ := hp.old_ 2 (.pointer (some ⟨w.heap.size, 0, none⟩))
    have hk := hK.pure (.pointer (some ⟨w.heap.size, 0, none⟩)) hp.S
    clear hp hK
    go_simp
    exact hk
  · intro a wu γ nph K hp hK
    obtain ⟨e8a, e8b⟩ := hp.dep_ 8 3 (.pointer (some ⟨w.heap.size, 0, none⟩))
    have hS : Sd w6 [] CL wu := hp.S
    have c0 := hS.at_ 0 ⟨w.heap.size, 0, none⟩ (.iface 74 (.pointer (some p))) (by rw [hCL]; rfl)
    have hk := hK.pure (.iface 74 (.pointer (some p))) hp.S
    clear hp hK hS
    go_simp
    exact hk
  · intro a wu γ nph K hp hK
    obtain ⟨e9a, e9b⟩ := hp.dep_ 9 4 (.iface 74 (.pointer (some p)))
    have hS : Sd w6 [] CL wu := hp.S
    have hk := hK.call (.int .i32 (kW (-134217728)).v)
    clear hp hK
    go_simp
    refine (w_const p _ _ (by first | assumption | decide)).mono ?_
    rintro e w7 ⟨rfl, hcX⟩
    exact hk _ (hS.call hcX) (Reg.keep_call _ rfl hcX)
  · intro a wu γ nph K hp hK
    obtain ⟨e6a, e6b⟩ := hp.dep_ 6 1 (.agg #[.iface 74 (.pointer (some p))])
    obtain ⟨e7a, e7b⟩ := hp.dep_ 7 2 (.int .i32 (x).v)
    obtain ⟨e10a, e10b⟩ := hp.dep_ 10 5 (.int .i32 (kW (-134217728)).v)
    have hS : Sd w6 [] CL wu := hp.S
    have hk := hK.call (.int .i32 (maxW (x) (kW (-134217728))).v)
    clear hp hK
    go_simp
    refine (w_max p _ _ _).mono ?_
    rintro e w7 ⟨rfl, hcX⟩
    exact hk _ (hS.call hcX) (Reg.keep_call _ rfl hcX)
  · intro a wu γ nph K hp hK
    obtain ⟨e2a, e2b⟩ := hp.old_ 2 (.pointer (some ⟨w.heap.size, 0, none⟩))
    have hk := hK.pure (.pointer (some ⟨w.heap.size, 0, none⟩)) hp.S
    clear hp hK
    go_simp
    exact hk
  · intro a wu γ nph K hp hK
    obtain ⟨e12a, e12b⟩ := hp.dep_ 12 7 (.pointer (some ⟨w.heap.size, 0, none⟩))
    have hS : Sd w6 [] CL wu := hp.S
    have c0 := hS.at_ 0 ⟨w.heap.size, 0, none⟩ (.iface 74 (.pointer (some p))) (by rw [hCL]; rfl)
    have hk := hK.pure (.iface 74 (.pointer (some p))) hp.S
    clear hp hK hS
    go_simp
    exact hk
  · intro a wu γ nph K hp hK
    obtain ⟨e13a, e13b⟩ := hp.dep_ 13 8 (.iface 74 (.pointer (some p)))
    have hS : Sd w6 [] CL wu := hp.S
    have hk := hK.call (.int .i32 (kW (134217728)).v)
    clear hp hK
    go_simp
    refine (w_const p _ _ (by first | assumption | decide)).mono ?_
    rintro e w7 ⟨rfl, hcX⟩
    exact hk _ (hS.call hcX) (Reg.keep_call _ rfl hcX)
  · intro a wu γ nph K hp hK
    obtain ⟨e5a, e5b⟩ := hp.dep_ 5 0 (.agg #[.iface 74 (.pointer (some p))])
    obtain ⟨e11a, e11b⟩ := hp.dep_ 11 6 (.int .i32 (maxW (x) (kW (-134217728))).v)
    obtain ⟨e14a, e14b⟩ := hp.dep_ 14 9 (.int .i32 (kW (134217728)).v)
    have hS : Sd w6 [] CL wu := hp.S
    have hk := hK.call (.int .i32 (minW (maxW (x) (kW (-134217728))) (kW (134217728))).v)
    clear hp hK
    go_simp
    refine (w_min p _ _ _).mono ?_
    rintro e w7 ⟨rfl, hcX⟩
    exact hk _ (hS.call hcX) (Reg.keep_call _ rfl hcX)
  · intro a wu γ nph K hp hK
    obtain ⟨e15a, e15b⟩ := hp.dep_ 15 10 (.int .i32 (minW (maxW (x) (kW (-134217728))) (kW (134217728))).v)
    have hk := hK.pure (.int .i32 (minW (maxW (x) (kW (-134217728))) (kW (134217728))).v) hp.S
    clear hp hK
    go_simp
    exact hk
set_option maxRecDepth 100000 in
set_option maxHeartbeats 16000000 in
theorem wunit_calls (b : Nat) (x0 x1 x2 x3 : Wd) (n : Nat) (w : World) (hn : n ≤ 900) (hpl : PlR w b (most n)) :
    Calls Tryz.prog 120 #[.agg #[.iface 74 (.pointer (some ⟨b, 0, none⟩))], .agg #[.int .i32 x0.v, .int .i32 x1.v, .int .i32 x2.v, .int .i32 x3.v]] w fun e w' => e = .returned (.agg #[.int .i32 (unitW x0 x1 x2 x3).a.v, .int .i32 (unitW x0 x1 x2 x3).b.v, .int .i32 (unitW x0 x1 x2 x3).c.v, .int .i32 (unitW x0 x1 x2 x3).d.v]) ∧ PlR w' b (most (n + 1)) ∧ Turn w b w' := by
  have k0 := Blk.new w 52 [.iface 74 (.pointer (some ⟨b, 0, none⟩))]
  have m0 := ((k0.alloc (.cells #[.int .i32 x0.v, .int .i32 x1.v, .int .i32 x2.v, .int .i32 x3.v] 27)).alloc (.cells #[.int .i32 0, .int .i32 0, .int .i32 0, .int .i32 0] 27))
  have g0_0 := m0.cell' (i := 0) rfl
  have k1 := Blk.new (w.alloc (.cells #[.iface 74 (.pointer (some ⟨b, 0, none⟩))] 52)) 27 [.int .i32 x0.v, .int .i32 x1.v, .int .i32 x2.v, .int .i32 x3.v]
  have m1 := (k1.alloc (.cells #[.int .i32 0, .int .i32 0, .int .i32 0, .int .i32 0] 27))
  simp only [size_alloc] at m1
  have g1_0 := m1.cell' (i := 0) rfl
  have g1_1 := m1.cell' (i := 1) rfl
  have g1_2 := m1.cell' (i := 2) rfl
  have g1_3 := m1.cell' (i := 3) rfl
  have k2 := Blk.new ((w.alloc (.cells #[.iface 74 (.pointer (some ⟨b, 0, none⟩))] 52)).alloc (.cells #[.int .i32 x0.v, .int .i32 x1.v, .int .i32 x2.v, .int .i32 x3.v] 27)) 27 [.int .i32 0, .int .i32 0, .int .i32 0, .int .i32 0]
  have m2 := k2
  simp only [size_alloc] at m2
  have HC := hide ((((Chg.refl w []).alloc (.cells #[.iface 74 (.pointer (some ⟨b, 0, none⟩))] 52)).alloc (.cells #[.int .i32 x0.v, .int .i32 x1.v, .int .i32 x2.v, .int .i32 x3.v] 27)).alloc (.cells #[.int .i32 0, .int .i32 0, .int .i32 0, .int .i32 0] 27))
  clear k0 k1 k2
  have h1 := nil_const ⟨b, 0, none⟩
  have h2 := meth_const ⟨b, 0, none⟩
  have h3 := nil_get ⟨b, 0, none⟩
  have h4 := meth_get ⟨b, 0, none⟩
  have h5 := nil_set ⟨b, 0, none⟩
  have h6 := meth_set ⟨b, 0, none⟩
  have h7 := nil_cell ⟨b, 0, none⟩
  have h8 := meth_cell ⟨b, 0, none⟩
  have h9 := nil_loop ⟨b, 0, none⟩
  have h10 := meth_loop ⟨b, 0, none⟩
  have HT0 : Hid (Turn w b (((w.alloc (.cells #[.iface 74 (.pointer (some ⟨b, 0, none⟩))] 52)).alloc (.cells #[.int .i32 x0.v, .int .i32 x1.v, .int .i32 x2.v, .int .i32 x3.v] 27)).alloc (.cells #[.int .i32 0, .int .i32 0, .int .i32 0, .int .i32 0] 27))) := hide (Turn.call hpl HC.out)
  have hfar := far_of hpl HC.out
  have fb0 := hfar (w.heap.size) (by omega)
  have fb1 := hfar (w.heap.size + 1) (by omega)
  have fb2 := hfar (w.heap.size + 1 + 1) (by omega)
  have lb2 := m2.lt
  have hp6 := hpl.chg HC.out (by simp)
  clear hfar HC m0 m1
  go_enter Tryz.func120, Tryz.ntmps120
  go_wp2_with fail
  generalize (((w.alloc (.cells #[.iface 74 (.pointer (some ⟨b, 0, none⟩))] 52)).alloc (.cells #[.int .i32 x0.v, .int .i32 x1.v, .int .i32 x2.v, .int .i32 x3.v] 27)).alloc (.cells #[.int .i32 0, .int .i32 0, .int .i32 0, .int .i32 0] 27)) = w6 at *
  obtain ⟨CL, hCL⟩ : ∃ l : List (Addr × Value), l = [(⟨w.heap.size, 0, none⟩, .iface 74 (.pointer (some ⟨b, 0, none⟩))), (⟨w.heap.size + 1, 0, none⟩, .int .i32 (x0).v), (⟨w.heap.size + 1, 1, none⟩, .int .i32 (x1).v), (⟨w.heap.size + 1, 2, none⟩, .int .i32 (x2).v), (⟨w.heap.size + 1, 3, none⟩, .int .i32 (x3).v)] := ⟨_, rfl⟩
  have HS0 : Sp w6 b (fun k => most (n + k)) [w.heap.size + 1 + 1] CL 0 w6.drew := Sp.start hp6 (by rw [hCL]; simp only [List.forall_mem_cons]; exact ⟨g0_0, g1_0, g1_1, g1_2, g1_3, by simp⟩)
  have hap : Apart w6 b [w.heap.size + 1 + 1] [w.heap.size, w.heap.size + 1] CL := ⟨by rw [hCL]; simp only [List.forall_mem_cons]; exact ⟨by simp, by simp, by simp, by simp, by simp, by simp⟩, by simp only [List.forall_mem_cons]; exact ⟨World.block_lt_of_cell? _ _ g0_0, World.block_lt_of_cell? _ _ g1_0, by simp⟩, by simp only [List.forall_mem_cons]; exact ⟨fb0, fb1, by simp⟩, by simp only [List.forall_mem_cons]; exact ⟨⟨lb2, fb2⟩, by simp⟩⟩
  refine Reg.wp_region (Reg.of 10 _ _ [.agg #[.iface 74 (.pointer (some ⟨b, 0, none⟩))], .agg #[.iface 74 (.pointer (some ⟨b, 0, none⟩))], .slice (some ⟨w.heap.size + 1, 0, none⟩) 4 4, .int .i32 (normW (x0) [x1, x2, x3]).v, .tuple #[.int .i32 ((rootW (normW (x0) [x1, x2, x3])).1).v, .int .i32 ((rootW (normW (x0) [x1, x2, x3])).2).v], .tuple #[.int .i32 ((rootW (normW (x0) [x1, x2, x3])).1).v, .int .i32 ((rootW (normW (x0) [x1, x2, x3])).2).v], .int .i32 ((rootW (normW (x0) [x1, x2, x3])).1).v, .int .i32 ((rootW (normW (x0) [x1, x2, x3])).2).v, .int .i32 ((rootW (normW (x0) [x1, x2, x3])).1).v, .int .i32 ((rootW (normW (x0) [x1, x2, x3])).2).v] [fun _ => undef, fun _ => undef, fun _ => undef, fun _ => undef, fun _ => undef, fun _ => undef, fun _ => undef, fun _ => undef, fun _ => undef, fun _ => undef] [.val, .val, .val, .val, .val, .val, .val, .val, .val, .val] [(27, [.int .i32 0, .int .i32 0, .int .i32 0, .int .i32 0])] [w.heap.size + 1 + 1] [4] (Sp w6 b (fun k => most (n + k)) [w.heap.size + 1 + 1] CL) (Fp w6 b [w.heap.size + 1 + 1] [w.heap.size, w.heap.size + 1])) (Reg.good_of _ 32 (by kernel_rfl) (by kernel_rfl)) (stands_p _ hap rfl rfl rfl) (by kernel_rfl) HS0 (hold_of (by kernel_rfl) ?holdwz1) (ne_of (by kernel_rfl) ?hnewz1) (Reg.steps_of _ rfl ⟨?_, ?_, ?_, ?_, ?_, ?_, ?_, ?_, ?_, ?_, trivial⟩) ?hendwz1
  case holdwz1 =>
    intro k T c hk
    cases k with
    | zero => simp only [List.getElem?_cons_zero, Option.some.injEq, Prod.mk.injEq] at hk; obtain ⟨rfl, rfl⟩ := hk; exact ⟨m2, ⟨by simp; try omega, fb2, .inl (by simp)⟩⟩
    | succ k =>
      simp at hk
  case hnewz1 => intro i j hi hj hne; simp at hi hj; omega
  case hendwz1 =>
    intro wz1 γ hSz hBz hnez hOz
    replace hSz : Sp w6 b (fun k => most (n + k)) [w.heap.size + 1 + 1] CL 1 wz1 := hSz
    have ob0 : Blk wz1 (w.heap.size + 1 + 1) 27 [.int .i32 0, .int .i32 0, .int .i32 0, .int .i32 0] := by have h := (hBz 10 27 [.int .i32 0, .int .i32 0, .int .i32 0, .int .i32 0] (by kernel_rfl) [.int .i32 0, .int .i32 0, .int .i32 0, .int .i32 0] (by kernel_rfl)).1; rw [hOz 10 (Nat.le_trans (Nat.le_of_eq (by kernel_rfl : _ = 10)) (by decide : 10 ≤ 10))] at h; exact h
    refine end_of [(5, .int .i32 ((rootW (normW (x0) [x1, x2, x3])).1).v), (6, .int .i32 ((rootW (normW (x0) [x1, x2, x3])).2).v), (10, .tuple #[.int .i32 ((rootW (normW (x0) [x1, x2, x3])).1).v, .int .i32 ((rootW (normW (x0) [x1, x2, x3])).2).v]), (11, .agg #[.iface 74 (.pointer (some ⟨b, 0, none⟩))]), (12, .agg #[.iface 74 (.pointer (some ⟨b, 0, none⟩))]), (13, .slice (some ⟨w.heap.size + 1, 0, none⟩) 4 4), (14, .int .i32 (normW (x0) [x1, x2, x3]).v), (15, .tuple #[.int .i32 ((rootW (normW (x0) [x1, x2, x3])).1).v, .int .i32 ((rootW (normW (x0) [x1, x2, x3])).2).v]), (16, .int .i32 ((rootW (normW (x0) [x1, x2, x3])).1).v), (17, .int .i32 ((rootW (normW (x0) [x1, x2, x3])).2).v)] (by kernel_rfl) ?_
    clear hBz hnez hOz HS0
    simp only [Reg.of, List.foldl_cons, List.foldl_nil, List.setIfInBounds_toArray, List.set_cons_zero, List.set_cons_succ]
    have HC1 := hide (HT0.out.region hSz (by simp; try omega))
    have pl1 := hSz.pl
    have fr1_0 := hSz.apart hap (w.heap.size + 1) (by simp)
    have fr1_1 := hSz.apart hap (w.heap.size) (by simp)
    have fr1_2 := hSz.turn_far lb2 fb2
    have lt1_0 := ob0.lt
    have y1_0 : wz1.cell? ⟨w.heap.size, 0, none⟩ = some (.iface 74 (.pointer (some ⟨b, 0, none⟩))) := hSz.at_ 0 _ _ (by rw [hCL]; rfl)
    have y1_1 : wz1.cell? ⟨w.heap.size + 1, 0, none⟩ = some (.int .i32 (x0).v) := hSz.at_ 1 _ _ (by rw [hCL]; rfl)
    have y1_2 : wz1.cell? ⟨w.heap.size + 1, 1, none⟩ = some (.int .i32 (x1).v) := hSz.at_ 2 _ _ (by rw [hCL]; rfl)
    have y1_3 : wz1.cell? ⟨w.heap.size + 1, 2, none⟩ = some (.int .i32 (x2).v) := hSz.at_ 3 _ _ (by rw [hCL]; rfl)
    have y1_4 : wz1.cell? ⟨w.heap.size + 1, 3, none⟩ = some (.int .i32 (x3).v) := hSz.at_ 4 _ _ (by rw [hCL]; rfl)
    clear hSz hCL hap CL g0_0 g1_0 g1_1 g1_2 g1_3 HT0 m2 fb0 fb1 fb2 lb2 hp6
    have mo1_0 := ob0
    clear ob0
    have lw1 := HC1.out.chg.size
    have hal2 := (Chg.refl wz1 []).alloc (.cells #[.int .i32 0, .int .i32 0, .int .i32 0, .int .i32 0] 27)
    have mo2_0 := Blk.new wz1 27 [.int .i32 0, .int .i32 0, .int .i32 0, .int .i32 0]
    have y2_0 := hal2.cell y1_0 (by simp)
    have y2_1 := hal2.cell y1_1 (by simp)
    have y2_2 := hal2.cell y1_2 (by simp)
    have y2_3 := hal2.cell y1_3 (by simp)
    have y2_4 := hal2.cell y1_4 (by simp)
    have hd2 := dof_chg pl1 hal2 (by simp)
    have fn2 := far_of pl1 hal2 wz1.heap.size (Nat.le_refl _)
    have fr2_0 := fr1_0
    rw [← hd2] at fr2_0
    have fr2_1 := fr1_1
    rw [← hd2] at fr2_1
    have fr2_2 := fr1_2
    rw [← hd2] at fr2_2
    have HC2 := hide (HC1.out.trans (Turn.call pl1 hal2))
    have pl2 := pl1.chg hal2 (by simp)
    have le2 := HC1.out.chg.size
    have mo2_1 := mo1_0.chg hal2 (by simp)
    have lt2_1 := mo2_1.lt
    go_wp2_with fail
    have lt2_0 := mo2_0.lt
    clear hal2 hd2 y1_0 y1_1 y1_2 y1_3 y1_4 fr1_0 fr1_1 fr1_2 pl1 HC1 mo1_0
    generalize (wz1.alloc (.cells #[.int .i32 0, .int .i32 0, .int .i32 0, .int .i32 0] 27)) = wz2 at *
    generalize wz1.heap.size = bo2 at *
    obtain ⟨ZZ, hZZ⟩ : ∃ z, z = (rootW (normW x0 [x1, x2, x3])) := ⟨_, rfl⟩
    have HZZ := hide hZZ
    clear hZZ
    obtain ⟨LN, hLN⟩ : ∃ l : List Value, l = [.int .i32 (scaledW x0 (rootW (normW x0 [x1, x2, x3])).1 (rootW (normW x0 [x1, x2, x3])).2).v, .int .i32 (scaledW x1 (rootW (normW x0 [x1, x2, x3])).1 (rootW (normW x0 [x1, x2, x3])).2).v, .int .i32 (scaledW x2 (rootW (normW x0 [x1, x2, x3])).1 (rootW (normW x0 [x1, x2, x3])).2).v, .int .i32 (scaledW x3 (rootW (normW x0 [x1, x2, x3])).1 (rootW (normW x0 [x1, x2, x3])).2).v] := ⟨_, rfl⟩
    have HLN := hide hLN
    clear hLN
    have HB0 : Hid (Blk wz2 (bo2) 27 (LN.take 0 ++ (zeros (.int .i32 0) 4).drop 0)) := hide (by rw [HLN.out]; exact mo2_0)
    have HQ0 : Hid (Chg wz2 wz2 [bo2]) := hide (Chg.refl _ _)
    go_loopw [19] (fun i wr => ∃ k : Nat, k ≤ 4 ∧ i = .int .i64 k ∧ Hid (Chg wz2 wr [bo2]) ∧ Hid (Blk wr (bo2) 27 (LN.take k ++ (zeros (.int .i32 0) 4).drop k))) (fun i _ => 4 - (intOf i).toNat)
    case atStart => exact ⟨0, Nat.zero_le _, rfl, HQ0, HB0⟩
    case round =>
      obtain ⟨k, hk, rfl, HQ, HB⟩ := hrel
      have yw := HQ.out.cell y2_0 (by simp; try omega)
      have lto := HB.out.lt
      rcases (by omega : k = 0 ∨ k = 1 ∨ k = 2 ∨ k = 3 ∨ k = 4) with rfl | rfl | rfl | rfl | rfl
      · have mo : Blk wr (bo2) 27 [.int .i32 0, .int .i32 0, .int .i32 0, .int .i32 0] := by have h := HB.out; rw [HLN.out] at h; exact h
        clear HB HB0 HQ0 y2_0 y2_1 y2_2 y2_3 y2_4 fr2_0 fr2_1 fr2_2 fn2 lt2_1 lt2_0 pl2 HC2 mo2_0 mo2_1
        have ix0 : ∀ w, (Instr.index 27 (.agg #[.int .i32 x0.v, .int .i32 x1.v, .int .i32 x2.v, .int .i32 x3.v]) (.int .i64 0)).run Tryz.prog w = .ok (.int .i32 x0.v) w := fun _ => by kernel_rfl
        go_wp2_with fail
        refine (wscaled_calls _ x0 (rootW (normW x0 [x1, x2, x3])).1 (rootW (normW x0 [x1, x2, x3])).2 _).mono ?_
        rintro e w7 ⟨rfl, hcX⟩
        have HQ2 := hide (HQ.out.trans hcX (D := [bo2]) (by simp))
        have mo2 := mo.chg hcX (by simp)
        have z0 := mo2.cell' (i := 0) rfl
        have f0 := mo2.frozen 0
        clear hcX mo HQ yw lto
        have HQ3 := hide (HQ2.out.setCell ⟨bo2, 0, none⟩ (.int .i32 (scaledW x0 (rootW (normW x0 [x1, x2, x3])).1 (rootW (normW x0 [x1, x2, x3])).2).v) (.inl (by simp)))
        have mo3 := hide (mo2.set_ 0 (.int .i32 (scaledW x0 (rootW (normW x0 [x1, x2, x3])).1 (rootW (normW x0 [x1, x2, x3])).2).v))
        clear mo2 HQ2
        go_wp2
        go_roundw
        case rel => exact ⟨1, by omega, by go_num, HQ3, hide (by rw [HLN.out]; exact mo3.out)⟩
        case measure => simp [intOf]
      · have mo : Blk wr (bo2) 27 [.int .i32 (scaledW x0 (rootW (normW x0 [x1, x2, x3])).1 (rootW (normW x0 [x1, x2, x3])).2).v, .int .i32 0, .int .i32 0, .int .i32 0] := by have h := HB.out; rw [HLN.out] at h; exact h
        clear HB HB0 HQ0 y2_0 y2_1 y2_2 y2_3 y2_4 fr2_0 fr2_1 fr2_2 fn2 lt2_1 lt2_0 pl2 HC2 mo2_0 mo2_1
        have ix1 : ∀ w, (Instr.index 27 (.agg #[.int .i32 x0.v, .int .i32 x1.v, .int .i32 x2.v, .int .i32 x3.v]) (.int .i64 1)).run Tryz.prog w = .ok (.int .i32 x1.v) w := fun _ => by kernel_rfl
        go_wp2_with fail
        refine (wscaled_calls _ x1 (rootW (normW x0 [x1, x2, x3])).1 (rootW (normW x0 [x1, x2, x3])).2 _).mono ?_
        rintro e w7 ⟨rfl, hcX⟩
        have HQ2 := hide (HQ.out.trans hcX (D := [bo2]) (by simp))
        have mo2 := mo.chg hcX (by simp)
        have z1 := mo2.cell' (i := 1) rfl
        have f1 := mo2.frozen 1
        clear hcX mo HQ yw lto
        have HQ3 := hide (HQ2.out.setCell ⟨bo2, 1, none⟩ (.int .i32 (scaledW x1 (rootW (normW x0 [x1, x2, x3])).1 (rootW (normW x0 [x1, x2, x3])).2).v) (.inl (by simp)))
        have mo3 := hide (mo2.set_ 1 (.int .i32 (scaledW x1 (rootW (normW x0 [x1, x2, x3])).1 (rootW (normW x0 [x1, x2, x3])).2).v))
        clear mo2 HQ2
        go_wp2
        go_roundw
        case rel => exact ⟨2, by omega, by go_num, HQ3, hide (by rw [HLN.out]; exact mo3.out)⟩
        case measure => simp [intOf]
      · have mo : Blk wr (bo2) 27 [.int .i32 (scaledW x0 (rootW (normW x0 [x1, x2, x3])).1 (rootW (normW x0 [x1, x2, x3])).2).v, .int .i32 (scaledW x1 (rootW (normW x0 [x1, x2, x3])).1 (rootW (normW x0 [x1, x2, x3])).2).v, .int .i32 0, .int .i32 0] := by have h := HB.out; rw [HLN.out] at h; exact h
        clear HB HB0 HQ0 y2_0 y2_1 y2_2 y2_3 y2_4 fr2_0 fr2_1 fr2_2 fn2 lt2_1 lt2_0 pl2 HC2 mo2_0 mo2_1
        have ix2 : ∀ w, (Instr.index 27 (.agg #[.int .i32 x0.v, .int .i32 x1.v, .int .i32 x2.v, .int .i32 x3.v]) (.int .i64 2)).run Tryz.prog w = .ok (.int .i32 x2.v) w := fun _ => by kernel_rfl
        go_wp2_with fail
        refine (wscaled_calls _ x2 (rootW (normW x0 [x1, x2, x3])).1 (rootW (normW x0 [x1, x2, x3])).2 _).mono ?_
        rintro e w7 ⟨rfl, hcX⟩
        have HQ2 := hide (HQ.out.trans hcX (D := [bo2]) (by simp))
        have mo2 := mo.chg hcX (by simp)
        have z2 := mo2.cell' (i := 2) rfl
        have f2 := mo2.frozen 2
        clear hcX mo HQ yw lto
        have HQ3 := hide (HQ2.out.setCell ⟨bo2, 2, none⟩ (.int .i32 (scaledW x2 (rootW (normW x0 [x1, x2, x3])).1 (rootW (normW x0 [x1, x2, x3])).2).v) (.inl (by simp)))
        have mo3 := hide (mo2.set_ 2 (.int .i32 (scaledW x2 (rootW (normW x0 [x1, x2, x3])).1 (rootW (normW x0 [x1, x2, x3])).2).v))
        clear mo2 HQ2
        go_wp2
        go_roundw
        case rel => exact ⟨3, by omega, by go_num, HQ3, hide (by rw [HLN.out]; exact mo3.out)⟩
        case measure => simp [intOf]
      · have mo : Blk wr (bo2) 27 [.int .i32 (scaledW x0 (rootW (normW x0 [x1, x2, x3])).1 (rootW (normW x0 [x1, x2, x3])).2).v, .int .i32 (scaledW x1 (rootW (normW x0 [x1, x2, x3])).1 (rootW (normW x0 [x1, x2, x3])).2).v, .int .i32 (scaledW x2 (rootW (normW x0 [x1, x2, x3])).1 (rootW (normW x0 [x1, x2, x3])).2).v, .int .i32 0] := by have h := HB.out; rw [HLN.out] at h; exact h
        clear HB HB0 HQ0 y2_0 y2_1 y2_2 y2_3 y2_4 fr2_0 fr2_1 fr2_2 fn2 lt2_1 lt2_0 pl2 HC2 mo2_0 mo2_1
        have ix3 : ∀ w, (Instr.index 27 (.agg #[.int .i32 x0.v, .int .i32 x1.v, .int .i32 x2.v, .int .i32 x3.v]) (.int .i64 3)).run Tryz.prog w = .ok (.int .i32 x3.v) w := fun _ => by kernel_rfl
        go_wp2_with fail
        refine (wscaled_calls _ x3 (rootW (normW x0 [x1, x2, x3])).1 (rootW (normW x0 [x1, x2, x3])).2 _).mono ?_
        rintro e w7 ⟨rfl, hcX⟩
        have HQ2 := hide (HQ.out.trans hcX (D := [bo2]) (by simp))
        have mo2 := mo.chg hcX (by simp)
        have z3 := mo2.cell' (i := 3) rfl
        have f3 := mo2.frozen 3
        clear hcX mo HQ yw lto
        have HQ3 := hide (HQ2.out.setCell ⟨bo2, 3, none⟩ (.int .i32 (scaledW x3 (rootW (normW x0 [x1, x2, x3])).1 (rootW (normW x0 [x1, x2, x3])).2).v) (.inl (by simp)))
        have mo3 := hide (mo2.set_ 3 (.int .i32 (scaledW x3 (rootW (normW x0 [x1, x2, x3])).1 (rootW (normW x0 [x1, x2, x3])).2).v))
        clear mo2 HQ2
        go_wp2
        go_roundw
        case rel => exact ⟨4, by omega, by go_num, HQ3, hide (by rw [HLN.out]; exact mo3.out)⟩
        case measure => simp [intOf]
      · have mo : Blk wr (bo2) 27 [.int .i32 (scaledW x0 (rootW (normW x0 [x1, x2, x3])).1 (rootW (normW x0 [x1, x2, x3])).2).v, .int .i32 (scaledW x1 (rootW (normW x0 [x1, x2, x3])).1 (rootW (normW x0 [x1, x2, x3])).2).v, .int .i32 (scaledW x2 (rootW (normW x0 [x1, x2, x3])).1 (rootW (normW x0 [x1, x2, x3])).2).v, .int .i32 (scaledW x3 (rootW (normW x0 [x1, x2, x3])).1 (rootW (normW x0 [x1, x2, x3])).2).v] := by have h := HB.out; rw [HLN.out] at h; exact h
        have mr := mo2_1.chg HQ.out (by simp; try omega)
        have xo0 := mo.cell' (i := 0) rfl
        have xr0 := mr.cell' (i := 0) rfl
        have xf0 := mr.frozen 0
        have xo1 := mo.cell' (i := 1) rfl
        have xr1 := mr.cell' (i := 1) rfl
        have xf1 := mr.frozen 1
        have xo2 := mo.cell' (i := 2) rfl
        have xr2 := mr.cell' (i := 2) rfl
        have xf2 := mr.frozen 2
        have xo3 := mo.cell' (i := 3) rfl
        have xr3 := mr.cell' (i := 3) rfl
        have xf3 := mr.frozen 3
        have pq := pl2.chg HQ.out (fun j hj hm => by simp at hm; subst hm; exact fn2 hj)
        have hdq := dof_chg pl2 HQ.out (fun hm => by simp at hm; subst hm; exact fn2 pl2.mem)
        have fr2 := fr2_2
        rw [← hdq] at fr2
        have HTT := hide (HC2.out.put pl2 HQ.out fn2 (by have := HC2.out.chg.size; omega))
        clear HB HB0 HQ0 HQ mo mr
        go_wp2
        refine bodyPost_ret (v := .agg #[.int .i32 (unitW x0 x1 x2 x3).a.v, .int .i32 (unitW x0 x1 x2 x3).b.v, .int .i32 (unitW x0 x1 x2 x3).c.v, .int .i32 (unitW x0 x1 x2 x3).d.v]) (by simp [results, Tryz.f120, go_sem, xr0, xr1, xr2, xr3]; exact ⟨rfl, rfl, rfl, rfl⟩) rfl ⟨rfl, pq.chg (((((Chg.refl wr [w.heap.size + 1 + 1]).setCell _ _ (.inl (by simp))).setCell _ _ (.inl (by simp))).setCell _ _ (.inl (by simp))).setCell _ _ (.inl (by simp))) (fun j hj hm => by simp at hm; subst hm; exact fr2 hj), HTT.out.put pq (((((Chg.refl wr [w.heap.size + 1 + 1]).setCell _ _ (.inl (by simp))).setCell _ _ (.inl (by simp))).setCell _ _ (.inl (by simp))).setCell _ _ (.inl (by simp))) fr2 (by omega)⟩
  · intro a wu γ nph K hp hK
    obtain ⟨e2a, e2b⟩ := hp.old_ 2 (.pointer (some ⟨w.heap.size, 0, none⟩))
    have hS : Sp w6 b (fun k => most (n + k)) [w.heap.size + 1 + 1] CL nph wu := hp.S
    have c0 := hS.at_ 0 ⟨w.heap.size, 0, none⟩ (.iface 74 (.pointer (some ⟨b, 0, none⟩))) (by rw [hCL]; rfl)
    have hk := hK.pure (.agg #[.iface 74 (.pointer (some ⟨b, 0, none⟩))]) hp.S
    clear hp hK hS
    go_simp
    exact hk
  · intro a wu γ nph K hp hK
    obtain ⟨e2a, e2b⟩ := hp.old_ 2 (.pointer (some ⟨w.heap.size, 0, none⟩))
    have hS : Sp w6 b (fun k => most (n + k)) [w.heap.size + 1 + 1] CL nph wu := hp.S
    have c0 := hS.at_ 0 ⟨w.heap.size, 0, none⟩ (.iface 74 (.pointer (some ⟨b, 0, none⟩))) (by rw [hCL]; rfl)
    have hk := hK.pure (.agg #[.iface 74 (.pointer (some ⟨b, 0, none⟩))]) hp.S
    clear hp hK hS
    go_simp
    exact hk
  · intro a wu γ nph K hp hK
    obtain ⟨e3a, e3b⟩ := hp.old_ 3 (.pointer (some ⟨w.heap.size + 1, 0, none⟩))
    have hk := hK.pure (.slice (some ⟨w.heap.size + 1, 0, none⟩) 4 4) hp.S
    clear hp hK
    go_simp
    exact hk
  · intro a wu γ nph K hp hK
    obtain ⟨e12a, e12b⟩ := hp.dep_ 12 1 (.agg #[.iface 74 (.pointer (some ⟨b, 0, none⟩))])
    obtain ⟨e13a, e13b⟩ := hp.dep_ 13 2 (.slice (some ⟨w.heap.size + 1, 0, none⟩) 4 4)
    have hS : Sp w6 b (fun k => most (n + k)) [w.heap.size + 1 + 1] CL nph wu := hp.S
    have c1 := hS.at_ 1 ⟨w.heap.size + 1, 0, none⟩ (.int .i32 (x0).v) (by rw [hCL]; rfl)
    have c2 := hS.at_ 2 ⟨w.heap.size + 1, 1, none⟩ (.int .i32 (x1).v) (by rw [hCL]; rfl)
    have c3 := hS.at_ 3 ⟨w.heap.size + 1, 2, none⟩ (.int .i32 (x2).v) (by rw [hCL]; rfl)
    have c4 := hS.at_ 4 ⟨w.heap.size + 1, 3, none⟩ (.int .i32 (x3).v) (by rw [hCL]; rfl)
    have hk := hK.call (.int .i32 (normW (x0) [x1, x2, x3]).v)
    clear hp hK
    go_simp
    refine (wnorm_calls _ (x0) [x1, x2, x3] _ _ (sl4 c1 c2 c3 c4) (by simp) (by simp)).mono ?_
    rintro e w7 ⟨rfl, hcX⟩
    exact hk _ (hS.call hcX) (Reg.keep_callp _ rfl hS hcX)
  · intro a wu γ nph K hp hK
    obtain ⟨e11a, e11b⟩ := hp.dep_ 11 0 (.agg #[.iface 74 (.pointer (some ⟨b, 0, none⟩))])
    obtain ⟨e14a, e14b⟩ := hp.dep_ 14 3 (.int .i32 (normW (x0) [x1, x2, x3]).v)
    have hS : Sp w6 b (fun k => most (n + k)) [w.heap.size + 1 + 1] CL nph wu := hp.S
    have hn : nph = 0 := hp.eff 0 (by kernel_rfl)
    have hk := hK.eff (.tuple #[.int .i32 ((rootW (normW (x0) [x1, x2, x3])).1).v, .int .i32 ((rootW (normW (x0) [x1, x2, x3])).2).v])
    clear hp hK
    subst hn
    go_simp
    refine (wroot_calls b (normW (x0) [x1, x2, x3]) _ _ (by first | assumption | (simp; omega) | omega) hS.pl).mono ?_
    rintro e w7 ⟨rfl, hpR, htR⟩
    exact hk _ (hS.eff hap hpR htR) (Reg.keep_eff _ rfl htR)
  · intro a wu γ nph K hp hK
    obtain ⟨e15a, e15b⟩ := hp.dep_ 15 4 (.tuple #[.int .i32 ((rootW (normW (x0) [x1, x2, x3])).1).v, .int .i32 ((rootW (normW (x0) [x1, x2, x3])).2).v])
    have hk := hK.pure (.tuple #[.int .i32 ((rootW (normW (x0) [x1, x2, x3])).1).v, .int .i32 ((rootW (normW (x0) [x1, x2, x3])).2).v]) hp.S
    clear hp hK
    go_simp
    exact hk
  · intro a wu γ nph K hp hK
    obtain ⟨e10a, e10b⟩ := hp.dep_ 10 5 (.tuple #[.int .i32 ((rootW (normW (x0) [x1, x2, x3])).1).v, .int .i32 ((rootW (normW (x0) [x1, x2, x3])).2).v])
    have hk := hK.pure (.int .i32 ((rootW (normW (x0) [x1, x2, x3])).1).v) hp.S
    clear hp hK
    go_simp
    exact hk
  · intro a wu γ nph K hp hK
    obtain ⟨e10a, e10b⟩ := hp.dep_ 10 5 (.tuple #[.int .i32 ((rootW (normW (x0) [x1, x2, x3])).1).v, .int .i32 ((rootW (normW (x0) [x1, x2, x3])).2).v])
    have hk := hK.pure (.int .i32 ((rootW (normW (x0) [x1, x2, x3])).2).v) hp.S
    clear hp hK
    go_simp
    exact hk
  · intro a wu γ nph K hp hK
    obtain ⟨e16a, e16b⟩ := hp.dep_ 16 6 (.int .i32 ((rootW (normW (x0) [x1, x2, x3])).1).v)
    have hk := hK.pure (.int .i32 ((rootW (normW (x0) [x1, x2, x3])).1).v) hp.S
    clear hp hK
    go_simp
    exact hk
  · intro a wu γ nph K hp hK
    obtain ⟨e17a, e17b⟩ := hp.dep_ 17 7 (.int .i32 ((rootW (normW (x0) [x1, x2, x3])).2).v)
    have hk := hK.pure (.int .i32 ((rootW (normW (x0) [x1, x2, x3])).2).v) hp.S
    clear hp hK
    go_simp
    exact hk

end Go.Proofs.YtbmfcedndbgpoaaGreat
